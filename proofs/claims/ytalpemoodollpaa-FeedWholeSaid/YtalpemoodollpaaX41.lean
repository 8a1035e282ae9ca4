/- Contracts and plain laws: HTok, HMsgBackP, Hgaps, HFormsP, HWholeP, HmessageAll, Hfeed, HWhole, HByt. -/
import Derived.Shelf.RegionOpen
import Derived.RegionIn
import Derived.Test.YtalpemoodollpaaX1
import Derived.Test.YtalpemoodollpaaX35
import Derived.Test.YtalpemoodollpaaX40
/- Tokens: what is put, one behind the other, and read again. -/
namespace Go.Proofs.Ytalpemoodollpaa.P
open Go.RowKit Go.Proofs.YtalpemoodollpaaW.PrintWords Go.Proofs.YtalpemoodollpaaW.PrintLast Go.Proofs.YtalpemoodollpaaW.PrintMore
set_option linter.unusedVariables false
set_option linter.unusedSimpArgs false
inductive Tok where
  | one (x : Int)
  | num (n : Int)
  | int (n : Int)
namespace Tok
def form : Tok → List Int
  | one x => [x]
  | num n => numForm n.toNat
  | int n => intForm n
def next : Tok → List Int × Int → List Int × Int
  | one _, s => (rUint s 1).2
  | num _, s => (rNum s).2
  | int _, s => (rUint s 8).2
def ok : Tok → Prop
  | one _ => True
  | num n => 0 ≤ n ∧ n < 18446744073709551616
  | int n => -9223372036854775808 ≤ n ∧ n ≤ 9223372036854775807
end Tok
def flat (ts : List Tok) : List Int := ts.flatMap Tok.form
theorem flat_cons (t : Tok) (ts : List Tok) : flat (t :: ts) = t.form ++ flat ts := rfl
/-- A state that has too few bytes for these. -/
def Sh (ts : List Tok) (s : List Int × Int) : Prop := s.2 = 3 ∨ (s.2 = 0 ∧ ∃ m, m < (flat ts).length ∧ s.1 = (flat ts).take m)
theorem rUint_f' (s : List Int × Int) (hf : s.2 ≠ 0) (k : Int) : rUint s k = (0, s) := rUint_f s.1 s.2 hf k
theorem rNum_f' (s : List Int × Int) (hf : s.2 ≠ 0) : rNum s = (0, s) := rNum_f s.1 s.2 hf
theorem next_f (t : Tok) (s : List Int × Int) (hf : s.2 ≠ 0) : t.next s = s := by
  cases t
  · show (rUint s 1).2 = s; rw [rUint_f' s hf]
  · show (rNum s).2 = s; rw [rNum_f' s hf]
  · show (rUint s 8).2 = s; rw [rUint_f' s hf]
theorem rUint_byte (x : Int) (t : List Int) : rUint (x :: t, 0) 1 = (x, (t, 0)) := by
  unfold rUint
  rw [if_neg (by decide), show (1 : Int).toNat = 1 from rfl, rTake_one]
  simp [beNum]
theorem next_full (t : Tok) (h : t.ok) (rest : List Int) : t.next (t.form ++ rest, 0) = (rest, 0) := by
  cases t with
  | one x => show (rUint (x :: rest, 0) 1).2 = _; rw [rUint_byte]
  | num n =>
    show (rNum (numForm n.toNat ++ rest, 0)).2 = _
    have h1 := h.1
    have h2 := h.2
    rw [rNum_form n.toNat (by omega)]
  | int n => exact (intForm_read n h.1 h.2 rest).2
theorem next_short (t : Tok) (h : t.ok) (l : List Int) (m : Nat) (hm : m < t.form.length) (hl : l = t.form.take m) : (t.next (l, 0)).2 = 3 := by
  subst hl
  cases t with
  | one x =>
    have : m = 0 := by simp [Tok.form] at hm; omega
    subst this
    rfl
  | num n =>
    have h1 := h.1
    have h2 := h.2
    exact rNum_short n.toNat m (by omega) hm
  | int n =>
    show (rUint _ 8).2.2 = 3
    have hlen : ((intForm n).take m).length < 8 := by rw [List.length_take, intForm_length]; have : m < (intForm n).length := hm; rw [intForm_length] at this; omega
    rw [rUint_short _ 8 (by decide) (by decide) (by show (((intForm n).take m).length : Int) < 8; omega)]
theorem Sh.step {t : Tok} {ts : List Tok} {s : List Int × Int} (h : Sh (t :: ts) s) (hok : t.ok) : Sh ts (t.next s) := by
  obtain ⟨l, f⟩ := s
  rcases h with h | ⟨h, m, hm, hl⟩
  · have h' : f = 3 := h
    left
    rw [next_f t (l, f) (by show f ≠ 0; omega)]
    exact h'
  · have h' : f = 0 := h
    subst h'
    have hl : l = (flat (t :: ts)).take m := hl
    rw [flat_cons] at hm hl
    by_cases hmt : m < t.form.length
    · left
      refine next_short t hok l m hmt ?_
      rw [hl, List.take_append_of_le_length (by omega)]
    · right
      have e : l = t.form ++ (flat ts).take (m - t.form.length) := by
        rw [hl, List.take_append, List.take_of_length_le (by omega)]
      rw [e, next_full t hok]
      exact ⟨rfl, m - t.form.length, by rw [List.length_append] at hm; omega, rfl⟩
theorem Sh.nil {s : List Int × Int} (h : Sh [] s) : s.2 = 3 := by
  rcases h with h | ⟨_, m, hm, _⟩
  · exact h
  · simp [flat] at hm
theorem Sh.start (ts : List Tok) (m : Nat) (hm : m < (flat ts).length) : Sh ts ((flat ts).take m, 0) := .inr ⟨rfl, m, hm, rfl⟩
/-- A fault stays. -/
theorem keep_uint {s : List Int × Int} {k : Int} (h : (rUint s k).2.2 = 0) : s.2 = 0 := by
  apply Classical.byContradiction
  intro hf
  rw [rUint_f' s hf] at h
  exact hf h
theorem keep_num {s : List Int × Int} (h : (rNum s).2.2 = 0) : s.2 = 0 := by
  apply Classical.byContradiction
  intro hf
  rw [rNum_f' s hf] at h
  exact hf h
theorem byte_back {s : List Int × Int} (hb : Byt s.1) (h : (rUint s 1).2.2 = 0) : s.1 = (rUint s 1).1 :: (rUint s 1).2.1 := by
  obtain ⟨l, f⟩ := s
  obtain rfl : f = 0 := keep_uint h
  cases l with
  | nil => exact absurd h (by decide)
  | cons x t => rw [rUint_byte]
theorem num_back {s : List Int × Int} (hb : Byt s.1) (h : (rNum s).2.2 = 0) : s.1 = numForm (rNum s).1.toNat ++ (rNum s).2.1 := by
  obtain ⟨l, f⟩ := s
  obtain rfl : f = 0 := keep_num h
  obtain ⟨n, e1, e2, e3⟩ := rNum_back l hb h
  rw [e2, Int.toNat_natCast]
  exact e1
theorem int_back {s : List Int × Int} (hb : Byt s.1) (h : (rUint s 8).2.2 = 0) : s.1 = intForm (unzig (rUint s 8).1) ++ (rUint s 8).2.1 := by
  obtain ⟨l, f⟩ := s
  obtain rfl : f = 0 := keep_uint h
  exact (intForm_back l hb h).1
end Go.Proofs.Ytalpemoodollpaa.P
/- Messages back and forth, plain. -/
namespace Go.Proofs.Ytalpemoodollpaa.P
open Go.RowKit Go.Proofs.YtalpemoodollpaaW.PrintWords Go.Proofs.YtalpemoodollpaaW.PrintLast Go.Proofs.YtalpemoodollpaaW.PrintMore
set_option linter.unusedVariables false
set_option linter.unusedSimpArgs false
theorem rI_ (n : Int) (h0 : -9223372036854775808 ≤ n) (h1 : n ≤ 9223372036854775807) (rest : List Int) : unzig (rUint (intForm n ++ rest, 0) 8).1 = n ∧ (rUint (intForm n ++ rest, 0) 8).2 = (rest, 0) := intForm_read n h0 h1 rest
theorem rN_ (n : Int) (h0 : 0 ≤ n) (h1 : n < 18446744073709551616) (rest : List Int) : rNum (numForm n.toNat ++ rest, 0) = (n, (rest, 0)) := by
  rw [rNum_form n.toNat (by omega), Int.toNat_of_nonneg h0]
theorem i64_unzig_ (s : List Int × Int) (h : Byt s.1) : i64B (unzig (rUint s 8).1) = true := by
  have h1 := rUint_range s 8 h
  have := unzig_range _ h1.1 h1.2
  simp [i64B, within_]
  omega
theorem mn_le_ {a b : Int} (h : a ≤ b) : mn a b = a := by unfold mn; rw [if_neg (by omega)]
theorem mn_small {a : Int} (h0 : 0 ≤ mn a 4611686018427387905) (h1 : mn a 4611686018427387905 ≤ 4611686018427387904) : mn a 4611686018427387905 = a := by
  by_cases h : a ≤ 4611686018427387905
  · exact mn_le_ h
  · unfold mn at h1 ⊢
    split at h1 <;> rename_i hh <;> omega
/-- What is put is decoded. -/
theorem msgDec_form (m : S29) (h : msgRight m = true) (h6 : i64B m.f6 = true) (h7 : i64B m.f7 = true) : msgDec (msgForm m) = (m, 0) := by
  have hr := h
  obtain ⟨f0, f1, f2, f3, f4, f5, f6, f7, f8⟩ := m
  simp only [msgRight, Bool.and_eq_true, within_iff] at hr
  simp only [i64B, within_iff] at h6 h7
  have e2 : mn f2 4611686018427387905 = f2 := mn_le_ (by omega)
  have e3 : mn f3 4611686018427387905 = f3 := mn_le_ (by omega)
  have n2 := fun r => rN_ f2 (by omega) (by omega) r
  have n3 := fun r => rN_ f3 (by omega) (by omega) r
  have i4 := fun r => rI_ f4 (by omega) (by omega) r
  have i5 := fun r => rI_ f5 (by omega) (by omega) r
  have i6 := fun r => rI_ f6 h6.1 h6.2 r
  have i7 := rI_ f7 h7.1 h7.2 []
  rw [List.append_nil] at i7
  unfold msgForm msgDec msgMid msgTail
  simp only [List.append_assoc, List.cons_append, List.nil_append, rUint_byte, n2, n3]
  rw [(i4 _).1, (i4 _).2, (i5 _).1, (i5 _).2, (i6 _).1, (i6 _).2, i7.1, i7.2]
  unfold msgFin
  rw [if_neg (by simp), e2, e3, if_neg (by rw [h]; simp)]
theorem msgFin_ok {k sym seq tick id wi price qty code : Int} {s : List Int × Int} (h : (msgFin k sym seq tick id wi price qty code s).2 = 0) :
    s = ([], 0) ∧ (msgFin k sym seq tick id wi price qty code s).1 = ⟨k, sym, seq, tick, id, wi, price, qty, code⟩ ∧ msgRight ⟨k, sym, seq, tick, id, wi, price, qty, code⟩ = true := by
  unfold msgFin at h ⊢
  by_cases hs : s.2 = 0
  · rw [if_neg (show ¬ s.2 ≠ 0 from fun x => x hs)] at h ⊢
    by_cases h1 : 0 < s.1.length ∨ msgRight ⟨k, sym, mn seq 4611686018427387905, mn tick 4611686018427387905, id, wi, price, qty, code⟩ = false
    · rw [if_pos h1] at h; exact absurd h (by decide)
    · rw [if_neg h1]
      have hl : s.1 = [] := List.eq_nil_of_length_eq_zero (by omega)
      have hr : msgRight ⟨k, sym, mn seq 4611686018427387905, mn tick 4611686018427387905, id, wi, price, qty, code⟩ = true := by
        cases hb : msgRight ⟨k, sym, mn seq 4611686018427387905, mn tick 4611686018427387905, id, wi, price, qty, code⟩ with
        | true => rfl
        | false => exact absurd (.inr hb) h1
      have hq := hr
      simp only [msgRight, Bool.and_eq_true, within_iff] at hq
      have e2 : mn seq 4611686018427387905 = seq := mn_small (by omega) (by omega)
      have e3 : mn tick 4611686018427387905 = tick := mn_small (by omega) (by omega)
      rw [e2, e3] at hr ⊢
      exact ⟨Prod.ext hl hs, rfl, hr⟩
  · rw [if_pos (show s.2 ≠ 0 from hs)] at h
    exact absurd h hs
theorem msgDec_zero (b : List Int) (h : (msgDec b).2 ≠ 0) : (msgDec b).1 = ⟨0, 0, 0, 0, 0, 0, 0, 0, 0⟩ := by
  unfold msgDec msgMid msgTail msgFin at h ⊢
  split
  · rfl
  · split
    · rfl
    · rename_i h1 h2
      rw [if_neg h1, if_neg h2] at h
      exact absurd rfl h
/-- What is decoded is right, and has just those bytes. -/
theorem msgDec_back (b : List Int) (hb : Byt b) (h : (msgDec b).2 = 0) : msgRight (msgDec b).1 = true ∧ msgForm (msgDec b).1 = b ∧ i64B (msgDec b).1.f6 = true ∧ i64B (msgDec b).1.f7 = true := by
  have b0 : Byt ((b, (0 : Int)) : List Int × Int).1 := hb
  generalize hs0 : ((b, (0 : Int)) : List Int × Int) = s0 at b0
  have e0 : b = s0.1 := by rw [← hs0]
  unfold msgDec msgMid msgTail at h ⊢
  rw [hs0] at h ⊢
  obtain ⟨hs, he, hr⟩ := msgFin_ok h
  rw [he]
  have b1 := byt_rUint s0 1 b0
  have b2 := byt_rUint _ 1 b1
  have b3 := byt_rUint _ 1 b2
  have b4 := byt_rNum _ b3
  have b5 := byt_rNum _ b4
  have b6 := byt_rUint _ 8 b5
  have b7 := byt_rUint _ 8 b6
  have b8 := byt_rUint _ 8 b7
  have z9 := congrArg Prod.snd hs
  have z8 := keep_uint z9
  have z7 := keep_uint z8
  have z6 := keep_uint z7
  have z5 := keep_uint z6
  have z4 := keep_num z5
  have z3 := keep_num z4
  have z2 := keep_uint z3
  have z1 := keep_uint z2
  have x0 := byte_back b0 z1
  have x1 := byte_back b1 z2
  have x2 := byte_back b2 z3
  have x3 := num_back b3 z4
  have x4 := num_back b4 z5
  have x5 := int_back b5 z6
  have x6 := int_back b6 z7
  have x7 := int_back b7 z8
  have x8 := int_back b8 z9
  have x9 := congrArg Prod.fst hs
  refine ⟨hr, ?_, i64_unzig_ _ b7, i64_unzig_ _ b8⟩
  unfold msgForm
  dsimp only at x9 ⊢
  conv => rhs; rw [e0, x0, x1, x2, x3, x4, x5, x6, x7, x8, x9]
  simp [List.append_assoc]
end Go.Proofs.Ytalpemoodollpaa.P
/- feed.Gaps. -/
namespace Go.Proofs.Ytalpemoodollpaa.P
open Go.RowKit Go.Proofs.YtalpemoodollpaaW.PrintWords Go.Proofs.YtalpemoodollpaaW.PrintLast Go.Proofs.YtalpemoodollpaaW.PrintMore
set_option linter.unusedVariables false
set_option linter.unusedSimpArgs false

def gapAdd : Nat → Int → Int → List Int → List Int
  | 0, _, _, out => out
  | k + 1, n, b, out => if n < b then gapAdd k (n + 1) b (out ++ [n]) else out
def gapStep (out : List Int) (a b : Int) : List Int := gapAdd (100 - out.length) (a + 1) b out
def seqAt (l : List S29) (i : Nat) : Int := (l.getD i z29).f2
/-- What stands in the list when the messages below i are seen. -/
def gapsUpto (l : List S29) : Nat → List Int
  | 0 => []
  | i + 1 => if i = 0 then [] else gapStep (gapsUpto l i) (seqAt l (i - 1)) (seqAt l i)
theorem gapAdd_done (k : Nat) (n b : Int) (out : List Int) (h : b ≤ n) : gapAdd k n b out = out := by
  cases k with
  | zero => rfl
  | succ k => rw [gapAdd, if_neg (by omega)]
theorem gapAdd_length (k : Nat) : ∀ (n b : Int) (out : List Int), (gapAdd k n b out).length ≤ out.length + k := by
  induction k with
  | zero => intro n b out; simp [gapAdd]
  | succ k ih =>
    intro n b out
    rw [gapAdd]
    split
    · have := ih (n + 1) b (out ++ [n])
      simp at this
      omega
    · omega
theorem gapsUpto_length (l : List S29) (i : Nat) : (gapsUpto l i).length ≤ 100 := by
  induction i with
  | zero => simp [gapsUpto]
  | succ i ih =>
    rw [gapsUpto]
    split
    · simp
    · have := gapAdd_length (100 - (gapsUpto l i).length) (seqAt l (i - 1) + 1) (seqAt l i) (gapsUpto l i)
      unfold gapStep
      omega
theorem gapsUpto_full (l : List S29) (i j : Nat) (h : (gapsUpto l i).length = 100) : gapsUpto l (i + j) = gapsUpto l i := by
  induction j with
  | zero => rfl
  | succ j ih =>
    rw [show i + (j + 1) = (i + j) + 1 by omega, gapsUpto]
    have h0 : i + j ≠ 0 := by
      intro h0
      have hi : i = 0 := by omega
      rw [hi] at h
      simp [gapsUpto] at h
    rw [if_neg h0, ih, gapStep, h]
    rfl
theorem idx_wrap {m j : Nat} (h : m ≤ 9223372036854775807) (hj : j < m) : IntKind.i64.wrap (j : Int) = (j : Int) := IntWalk.i64_in _ (by omega)
theorem idx_wrap2 {m j : Nat} (h : m ≤ 9223372036854775807) (hj : j + 1 < m) : wrap64 ((j : Int) + 1 + 1) = (j : Int) + 1 + 1 := by rw [wrap64_eq]; omega
theorem seq_wrap {a b : Int} (ha : -9223372036854775808 ≤ a) (hb : b ≤ 9223372036854775807) (h : a < b) : IntKind.i64.wrap (a + 1) = a + 1 := IntWalk.i64_in _ (by omega)
theorem meas_ {m j : Nat} (h : m ≤ 9223372036854775807) (hj : j + 1 < m) : ((m : Int) - intOf (Value.int IntKind.i64 (wrap64 ((j : Int) + 1 + 1)))).toNat < ((m : Int) - intOf (Value.int IntKind.i64 ((j.succ : Nat) : Int))).toNat := by
  rw [idx_wrap2 h hj]
  show ((m : Int) - ((j : Int) + 1 + 1)).toNat < ((m : Int) - ((j + 1 : Nat) : Int)).toNat
  omega
theorem meas2_ {n b : Int} (h : wrap64 (n + 1) = n + 1) (hn : n < b) : (b - intOf (Value.int IntKind.i64 (wrap64 (n + 1)))).toNat < (b - intOf (Value.int IntKind.i64 n)).toNat := by
  rw [h]
  show (b - (n + 1)).toNat < (b - n).toNat
  omega
def seqsB (l : List S29) : Bool := l.all fun x => i64B x.f2
def feed_Gaps.f (l0 : List S29) : Option (List Int) := if seqsB l0 = true then some (gapsUpto l0 l0.length) else none
theorem seqsB_at {l : List S29} (h : seqsB l = true) (i : Nat) (hi : i < l.length) : -9223372036854775808 ≤ seqAt l i ∧ seqAt l i ≤ 9223372036854775807 := by
  have := List.all_eq_true.1 h l[i] (List.getElem_mem hi)
  have := within_iff.1 this
  simpa [seqAt, List.getD_eq_getElem?_getD, hi] using this
theorem rdT29_seq (l : List S29) (i : Nat) : (rd_T29 l (i : Int)).f2 = seqAt l i := by simp [rd_T29, seqAt]
set_option maxRecDepth 100000 in
set_option maxHeartbeats 4000000 in
theorem feed_Gaps.calls (A0 : Option Addr) (c0 : Nat) (l0 : List S29) (r : List Int) (w : World) (hr0 : Kd.C k29 w A0 l0.length l0) (hc0 : l0.length ≤ c0) (h : feed_Gaps.f l0 = some r) :
    Calls Try.prog 27 #[.slice A0 l0.length c0] w fun e w' => ∃ v0_ : Value, e = .returned (v0_) ∧ Kd.R (Kd.int .i64) 2 w' w.heap.size (fun _ => True) v0_ r ∧ Below w.heap.size w w' := by
  unfold feed_Gaps.f at h
  by_cases hs : seqsB l0 = true
  · rw [if_pos hs] at h
    have HF := Aside0.mk (Option.some.inj h)
    have HS := Aside0.mk hs
    have HR := Aside0.mk hr0
    have HC := Aside0.mk hc0
    have hmax := hr0.2.1
    have HMAX := Aside0.mk hmax
    clear hr0 hc0 h hs hmax
    go_enter Try.func27, Try.ntmps27
    go_wp2
    go_step3
    go_wp2
    go_step3
    go_wp2
    go_loopw [2, 8] (fun u2 u8 wr => ∃ (i : Nat) (xs : List Int), u8 = .int .i64 (i : Int) ∧ i ≤ l0.length ∧ Aside0 (gapsUpto l0 i = xs) ∧ Aside0 (Kd.R (Kd.int .i64) 2 wr w.heap.size (fun _ => True) u2 xs) ∧ Aside0 (Below w.heap.size w wr)) (fun _ u8 _ => (l0.length - intOf u8).toNat)
    case atStart => exact ⟨0, [], rfl, Nat.zero_le _, ⟨rfl⟩, ⟨Kd.R_nil _ _ _ _ _⟩, ⟨Below.refl _ _⟩⟩
    case round =>
      obtain ⟨i, xs, rfl, hi, HX, HO, HB⟩ := hrel
      by_cases hlt : i < l0.length
      · obtain ⟨ad, hA0, e0, e1, e2, e3, e4, e5, e6, e7, e8⟩ := at_T29 (Kd.C_below HR.out HB.out) (i : Int) (by omega) (by omega)
        subst hA0
        rw [Int.toNat_natCast] at e0 e1 e2 e3 e4 e5 e6 e7 e8
        rw [rdT29_seq] at e2
        generalize (rd_T29 l0 (i : Int)).f0 = q0 at *
        generalize (rd_T29 l0 (i : Int)).f1 = q1 at *
        generalize (rd_T29 l0 (i : Int)).f3 = q3 at *
        generalize (rd_T29 l0 (i : Int)).f4 = q4 at *
        generalize (rd_T29 l0 (i : Int)).f5 = q5 at *
        generalize (rd_T29 l0 (i : Int)).f6 = q6 at *
        generalize (rd_T29 l0 (i : Int)).f7 = q7 at *
        generalize (rd_T29 l0 (i : Int)).f8 = q8 at *
        have hb1 := below_alloc HB.out (.cells #[.int .i64 q0, .int .i64 q1, .int .i64 (seqAt l0 i), .int .i64 q3, .int .i64 q4, .int .i64 q5, .int .i64 q6, .int .i64 q7, .int .i64 q8] 29)
        have bx : Box9 (wr.alloc (.cells #[.int .i64 q0, .int .i64 q1, .int .i64 (seqAt l0 i), .int .i64 q3, .int .i64 q4, .int .i64 q5, .int .i64 q6, .int .i64 q7, .int .i64 q8] 29)) 29 wr.heap.size q0 q1 (seqAt l0 i) q3 q4 q5 q6 q7 q8 := blk_new wr _
        have ho1 := Kd.R_alloc HO.out (.cells #[.int .i64 q0, .int .i64 q1, .int .i64 (seqAt l0 i), .int .i64 q3, .int .i64 q4, .int .i64 q5, .int .i64 q6, .int .i64 q7, .int .i64 q8] 29)
        have HB1 := Aside0.mk hb1
        have BX := Aside0.mk bx
        have HO1 := Aside0.mk ho1
        clear hb1 bx ho1
        go_wp2_with fail
        by_cases hi0 : i = 0
        · subst hi0
          clear e0 e1 e2 e3 e4 e5 e6 e7 e8
          have HB1_ := Aside0.mk (HB1.out.drew)
          have HO1_ := Aside0.mk (Kd.R_drew HO1.out)
          have BX_ := Aside0.mk ((show Box9 (wr.alloc (.cells #[.int .i64 q0, .int .i64 q1, .int .i64 (seqAt l0 0), .int .i64 q3, .int .i64 q4, .int .i64 q5, .int .i64 q6, .int .i64 q7, .int .i64 q8] 29)).drew 29 wr.heap.size q0 q1 (seqAt l0 0) q3 q4 q5 q6 q7 q8 from BX.out))
          clear HB1 HO1 BX
          refine start_ (n := 13) (S := fun w' => w'.cell? ⟨wr.heap.size, 2, none⟩ = some (.int .i64 (seqAt l0 0))) (ds := []) #[false, false, false, false, false, false, false, false, false, false, false, false, false] (by kernel_rfl) rfl rfl BX_.out.cells.2.2.1 (fun hHeld => ?_)
          generalize (wr.alloc (.cells #[.int .i64 q0, .int .i64 q1, .int .i64 (seqAt l0 0), .int .i64 q3, .int .i64 q4, .int .i64 q5, .int .i64 q6, .int .i64 q7, .int .i64 q8] 29)).drew = w2 at HB1_ HO1_ BX_ hHeld ⊢
          refine pure_ (i := 0) (N := some 13) (v := ?_) (a' := ?_) #[true, false, false, false, false, false, false, false, false, false, false, false, false] rfl rfl (by kernel_rfl) (fun _ _ _ h => h) (Or.inl ⟨by rfl, ?_⟩) ?_ ?_
          rotate_left
          · intro w'
            go_simp
            with_reducible rfl
          rotate_left
          · simp only [Act.put, List.setIfInBounds_toArray, List.set_cons_zero, List.set_cons_succ, i64_w, i32_w]
            rfl
          refine pure_ (i := 1) (N := some 14) (v := ?_) (a' := ?_) #[true, true, false, false, false, false, false, false, false, false, false, false, false] rfl rfl (by kernel_rfl) (fun _ _ _ h => h) (Or.inl ⟨by rfl, ?_⟩) ?_ ?_
          rotate_left
          · intro w'
            go_simp
            with_reducible rfl
          rotate_left
          · simp only [Act.put, List.setIfInBounds_toArray, List.set_cons_zero, List.set_cons_succ, i64_w, i32_w]
            rfl
          refine pure_ (i := 2) (N := some 15) (v := ?_) (a' := ?_) #[true, true, true, false, false, false, false, false, false, false, false, false, false] rfl rfl (by kernel_rfl) (fun _ _ _ h => h) (Or.inl ⟨by rfl, ?_⟩) ?_ ?_
          rotate_left
          · intro w'
            go_simp
            with_reducible rfl
          rotate_left
          · simp only [Act.put, List.setIfInBounds_toArray, List.set_cons_zero, List.set_cons_succ, i64_w, i32_w]
            rfl
          refine pure_ (i := 3) (N := some 16) (v := undef) (a' := ?_) #[true, true, true, true, false, false, false, false, false, false, false, false, false] rfl rfl (by kernel_rfl) (fun _ _ _ h => h) (Or.inr ⟨by rfl, rfl⟩) ?_ ?_
          rotate_left
          · simp only [Act.put, List.setIfInBounds_toArray, List.set_cons_zero, List.set_cons_succ, i64_w, i32_w]
            rfl
          refine pure_ (i := 4) (N := some 17) (v := undef) (a' := ?_) #[true, true, true, true, true, false, false, false, false, false, false, false, false] rfl rfl (by kernel_rfl) (fun _ _ _ h => h) (Or.inr ⟨by rfl, rfl⟩) ?_ ?_
          rotate_left
          · simp only [Act.put, List.setIfInBounds_toArray, List.set_cons_zero, List.set_cons_succ, i64_w, i32_w]
            rfl
          refine pure_ (i := 5) (N := some 18) (v := undef) (a' := ?_) #[true, true, true, true, true, true, false, false, false, false, false, false, false] rfl rfl (by kernel_rfl) (fun _ _ _ h => h) (Or.inr ⟨by rfl, rfl⟩) ?_ ?_
          rotate_left
          · simp only [Act.put, List.setIfInBounds_toArray, List.set_cons_zero, List.set_cons_succ, i64_w, i32_w]
            rfl
          refine pure_ (i := 6) (N := some 19) (v := undef) (a' := ?_) #[true, true, true, true, true, true, true, false, false, false, false, false, false] rfl rfl (by kernel_rfl) (fun _ _ _ h => h) (Or.inr ⟨by rfl, rfl⟩) ?_ ?_
          rotate_left
          · simp only [Act.put, List.setIfInBounds_toArray, List.set_cons_zero, List.set_cons_succ, i64_w, i32_w]
            rfl
          refine pure_ (i := 7) (N := some 20) (v := undef) (a' := ?_) #[true, true, true, true, true, true, true, true, false, false, false, false, false] rfl rfl (by kernel_rfl) (fun _ _ _ h => h) (Or.inr ⟨by rfl, rfl⟩) ?_ ?_
          rotate_left
          · simp only [Act.put, List.setIfInBounds_toArray, List.set_cons_zero, List.set_cons_succ, i64_w, i32_w]
            rfl
          refine pure_ (i := 8) (N := some 21) (v := undef) (a' := ?_) #[true, true, true, true, true, true, true, true, true, false, false, false, false] rfl rfl (by kernel_rfl) (fun _ _ _ h => h) (Or.inr ⟨by rfl, rfl⟩) ?_ ?_
          rotate_left
          · simp only [Act.put, List.setIfInBounds_toArray, List.set_cons_zero, List.set_cons_succ, i64_w, i32_w]
            rfl
          refine pure_ (i := 9) (N := some 22) (v := undef) (a' := ?_) #[true, true, true, true, true, true, true, true, true, true, false, false, false] rfl rfl (by kernel_rfl) (fun _ _ _ h => h) (Or.inr ⟨by rfl, rfl⟩) ?_ ?_
          rotate_left
          · simp only [Act.put, List.setIfInBounds_toArray, List.set_cons_zero, List.set_cons_succ, i64_w, i32_w]
            rfl
          refine pure_ (i := 10) (N := some 23) (v := undef) (a' := ?_) #[true, true, true, true, true, true, true, true, true, true, true, false, false] rfl rfl (by kernel_rfl) (fun _ _ _ h => h) (Or.inr ⟨by rfl, rfl⟩) ?_ ?_
          rotate_left
          · simp only [Act.put, List.setIfInBounds_toArray, List.set_cons_zero, List.set_cons_succ, i64_w, i32_w]
            rfl
          refine pure_ (i := 11) (N := some 24) (v := undef) (a' := ?_) #[true, true, true, true, true, true, true, true, true, true, true, true, false] rfl rfl (by kernel_rfl) (fun _ _ _ h => h) (Or.inr ⟨by rfl, rfl⟩) ?_ ?_
          rotate_left
          · simp only [Act.put, List.setIfInBounds_toArray, List.set_cons_zero, List.set_cons_succ, i64_w, i32_w]
            rfl
          refine pure_ (i := 12) (N := some 25) (v := ?_) (a' := ?_) #[true, true, true, true, true, true, true, true, true, true, true, true, true] rfl rfl (by kernel_rfl) (fun _ _ _ h => h) (Or.inl ⟨by rfl, ?_⟩) ?_ ?_
          rotate_left
          · intro w'
            go_simp
            with_reducible rfl
          rotate_left
          · simp only [Act.put, List.setIfInBounds_toArray, List.set_cons_zero, List.set_cons_succ, i64_w, i32_w]
            rfl
          refine done_ (by kernel_rfl) ?_
          go_wp2
          go_roundw
          case rel => exact ⟨1, xs, rfl, by omega, ⟨HX.out⟩, HO1_, HB1_⟩
          case measure => simp [intOf]; omega
        · obtain ⟨j, rfl⟩ := Nat.exists_eq_succ_of_ne_zero hi0
          obtain ⟨ad2, hA2, f0, f1, f2, f9⟩ := at_T29 (Kd.C_below HR.out HB1.out) (j : Int) (by omega) (by omega)
          injection hA2 with hA2
          subst hA2
          rw [Int.toNat_natCast, rdT29_seq] at f2
          clear f0 f1 f9
          have hjl : (j : Int) < (l0.length : Int) := by omega
          have hwj : IntKind.i64.wrap (j : Int) = (j : Int) := idx_wrap HMAX.out (by omega)
          have hwj2 : wrap64 ((j : Int) + 1 + 1) = (j : Int) + 1 + 1 := idx_wrap2 HMAX.out (by omega)
          clear e0 e1 e2 e3 e4 e5 e6 e7 e8
          have HB1_ := Aside0.mk (HB1.out.drew)
          have HO1_ := Aside0.mk (Kd.R_drew HO1.out)
          have BX_ := Aside0.mk ((show Box9 (wr.alloc (.cells #[.int .i64 q0, .int .i64 q1, .int .i64 (seqAt l0 (j + 1)), .int .i64 q3, .int .i64 q4, .int .i64 q5, .int .i64 q6, .int .i64 q7, .int .i64 q8] 29)).drew 29 wr.heap.size q0 q1 (seqAt l0 (j + 1)) q3 q4 q5 q6 q7 q8 from BX.out))
          clear HB1 HO1 BX
          refine start_ (n := 13) (S := fun w' => w'.cell? ⟨wr.heap.size, 2, none⟩ = some (.int .i64 (seqAt l0 (j + 1))) ∧ w'.cell? ⟨(ad.add (j * 9)).block, (ad.add (j * 9)).off + 2, none⟩ = some (.int .i64 (seqAt l0 j))) (ds := []) #[false, false, false, false, false, false, false, false, false, false, false, false, false] (by kernel_rfl) rfl rfl ⟨BX_.out.cells.2.2.1, f2⟩ (fun hHeld => ?_)
          generalize (wr.alloc (.cells #[.int .i64 q0, .int .i64 q1, .int .i64 (seqAt l0 (j + 1)), .int .i64 q3, .int .i64 q4, .int .i64 q5, .int .i64 q6, .int .i64 q7, .int .i64 q8] 29)).drew = w2 at HB1_ HO1_ BX_ hHeld ⊢
          refine pure_ (i := 0) (N := some 13) (v := ?_) (a' := ?_) #[true, false, false, false, false, false, false, false, false, false, false, false, false] rfl rfl (by kernel_rfl) (fun _ _ _ h => h) (Or.inl ⟨by rfl, ?_⟩) ?_ ?_
          rotate_left
          · intro w'
            go_simp
            with_reducible rfl
          rotate_left
          · simp only [Act.put, List.setIfInBounds_toArray, List.set_cons_zero, List.set_cons_succ, i64_w, i32_w]
            rfl
          refine pure_ (i := 1) (N := some 14) (v := ?_) (a' := ?_) #[true, true, false, false, false, false, false, false, false, false, false, false, false] rfl rfl (by kernel_rfl) (fun _ _ _ h => h) (Or.inl ⟨by rfl, ?_⟩) ?_ ?_
          rotate_left
          · intro w'
            go_simp
            with_reducible rfl
          rotate_left
          · simp only [Act.put, List.setIfInBounds_toArray, List.set_cons_zero, List.set_cons_succ, i64_w, i32_w]
            rfl
          refine pure_ (i := 2) (N := some 15) (v := ?_) (a' := ?_) #[true, true, true, false, false, false, false, false, false, false, false, false, false] rfl rfl (by kernel_rfl) (fun _ _ _ h => h) (Or.inl ⟨by rfl, ?_⟩) ?_ ?_
          rotate_left
          · intro w'
            go_simp
            with_reducible rfl
          rotate_left
          · simp only [Act.put, List.setIfInBounds_toArray, List.set_cons_zero, List.set_cons_succ, i64_w, i32_w]
            rfl
          refine pure_ (i := 3) (N := some 16) (v := ?_) (a' := ?_) #[true, true, true, true, false, false, false, false, false, false, false, false, false] rfl rfl (by kernel_rfl) (fun _ _ _ h => h) (Or.inl ⟨by rfl, ?_⟩) ?_ ?_
          rotate_left
          · intro w'
            go_simp
            with_reducible rfl
          rotate_left
          · simp only [Act.put, List.setIfInBounds_toArray, List.set_cons_zero, List.set_cons_succ, i64_w, i32_w]
            rfl
          refine take_ (i := 4) (N := some 17) (v := ?_) (a' := ?_) #[true, true, true, true, true, false, false, false, false, false, false, false, false] rfl rfl (by kernel_rfl) (fun _ _ _ h => h) (Or.inl ⟨by rfl, ?_⟩) hHeld ?_ ?_
          rotate_left
          · rintro w' ⟨s0, s1⟩
            go_simp
            with_reducible rfl
          rotate_left
          · simp only [Act.put, List.setIfInBounds_toArray, List.set_cons_zero, List.set_cons_succ, i64_w, i32_w]
            rfl
          refine pure_ (i := 5) (N := some 18) (v := ?_) (a' := ?_) #[true, true, true, true, true, true, false, false, false, false, false, false, false] rfl rfl (by kernel_rfl) (fun _ _ _ h => h) (Or.inl ⟨by rfl, ?_⟩) ?_ ?_
          rotate_left
          · intro w'
            go_simp
            with_reducible rfl
          rotate_left
          · simp only [Act.put, List.setIfInBounds_toArray, List.set_cons_zero, List.set_cons_succ, i64_w, i32_w]
            rfl
          refine pure_ (i := 6) (N := some 19) (v := ?_) (a' := ?_) #[true, true, true, true, true, true, true, false, false, false, false, false, false] rfl rfl (by kernel_rfl) (fun _ _ _ h => h) (Or.inl ⟨by rfl, ?_⟩) ?_ ?_
          rotate_left
          · intro w'
            go_simp
            with_reducible rfl
          rotate_left
          · simp only [Act.put, List.setIfInBounds_toArray, List.set_cons_zero, List.set_cons_succ, i64_w, i32_w]
            rfl
          refine pure_ (i := 7) (N := some 20) (v := ?_) (a' := ?_) #[true, true, true, true, true, true, true, true, false, false, false, false, false] rfl rfl (by kernel_rfl) (fun _ _ _ h => h) (Or.inl ⟨by rfl, ?_⟩) ?_ ?_
          rotate_left
          · intro w'
            go_simp
            with_reducible rfl
          rotate_left
          · simp only [Act.put, List.setIfInBounds_toArray, List.set_cons_zero, List.set_cons_succ, i64_w, i32_w]
            rfl
          refine pure_ (i := 8) (N := some 21) (v := ?_) (a' := ?_) #[true, true, true, true, true, true, true, true, true, false, false, false, false] rfl rfl (by kernel_rfl) (fun _ _ _ h => h) (Or.inl ⟨by rfl, ?_⟩) ?_ ?_
          rotate_left
          · intro w'
            go_simp
            try rw [if_pos ⟨Int.natCast_nonneg j, hjl⟩, Int.toNat_natCast]
            with_reducible rfl
          rotate_left
          · simp only [Act.put, List.setIfInBounds_toArray, List.set_cons_zero, List.set_cons_succ, i64_w, i32_w]
            rfl
          refine pure_ (i := 9) (N := some 22) (v := ?_) (a' := ?_) #[true, true, true, true, true, true, true, true, true, true, false, false, false] rfl rfl (by kernel_rfl) (fun _ _ _ h => h) (Or.inl ⟨by rfl, ?_⟩) ?_ ?_
          rotate_left
          · intro w'
            go_simp
            with_reducible rfl
          rotate_left
          · simp only [Act.put, List.setIfInBounds_toArray, List.set_cons_zero, List.set_cons_succ, i64_w, i32_w]
            rfl
          refine take_ (i := 10) (N := some 23) (v := ?_) (a' := ?_) #[true, true, true, true, true, true, true, true, true, true, true, false, false] rfl rfl (by kernel_rfl) (fun _ _ _ h => h) (Or.inl ⟨by rfl, ?_⟩) hHeld ?_ ?_
          rotate_left
          · rintro w' ⟨s0, s1⟩
            go_simp
            with_reducible rfl
          rotate_left
          · simp only [Act.put, List.setIfInBounds_toArray, List.set_cons_zero, List.set_cons_succ, i64_w, i32_w]
            rfl
          refine pure_ (i := 11) (N := some 24) (v := ?_) (a' := ?_) #[true, true, true, true, true, true, true, true, true, true, true, true, false] rfl rfl (by kernel_rfl) (fun _ _ _ h => h) (Or.inl ⟨by rfl, ?_⟩) ?_ ?_
          rotate_left
          · intro w'
            go_simp
            with_reducible rfl
          rotate_left
          · simp only [Act.put, List.setIfInBounds_toArray, List.set_cons_zero, List.set_cons_succ, i64_w, i32_w]
            rfl
          refine pure_ (i := 12) (N := some 25) (v := ?_) (a' := ?_) #[true, true, true, true, true, true, true, true, true, true, true, true, true] rfl rfl (by kernel_rfl) (fun _ _ _ h => h) (Or.inl ⟨by rfl, ?_⟩) ?_ ?_
          rotate_left
          · intro w'
            go_simp
            with_reducible rfl
          rotate_left
          · simp only [Act.put, List.setIfInBounds_toArray, List.set_cons_zero, List.set_cons_succ, i64_w, i32_w]
            rfl
          refine done_ (by kernel_rfl) ?_
          have ha := seqsB_at HS.out j (by omega)
          have hb := seqsB_at HS.out (j + 1) (by omega)
          have hgs : gapsUpto l0 (j + 1 + 1) = gapStep xs (seqAt l0 j) (seqAt l0 (j + 1)) := by rw [gapsUpto, if_neg (by omega), HX.out]; rfl
          have HGS := Aside0.mk hgs
          have hx100 : xs.length ≤ 100 := by rw [← HX.out]; exact gapsUpto_length l0 _
          have HX100 := Aside0.mk hx100
          clear hgs hx100
          obtain ⟨c2, c3⟩ := hHeld
          by_cases hle : seqAt l0 (j + 1) ≤ seqAt l0 j
          · have HLE := Aside0.mk hle
            clear ha hb
            go_wp2
            go_roundw
            case rel => exact ⟨j + 2, xs, (congrArg (Value.int .i64) (by omega)), by omega, ⟨by rw [HGS.out, gapStep, gapAdd_done _ _ _ _ (by have := HLE.out; omega)]⟩, HO1_, HB1_⟩
            case measure => exact meas_ HMAX.out (by omega)
          · have hlt2 : seqAt l0 j < seqAt l0 (j + 1) := by omega
            have ha1 : IntKind.i64.wrap (seqAt l0 j + 1) = seqAt l0 j + 1 := seq_wrap ha.1 hb.2 hlt2
            generalize hA : seqAt l0 j = a at *
            generalize hBB : seqAt l0 (j + 1) = b at *
            have HRNG := Aside0.mk (And.intro ha (And.intro hb hlt2))
            clear ha hb hlt2
            generalize hT : gapStep xs a b = T at HGS
            have HT := Aside0.mk hT
            have hdec : decide (b ≤ a) = false := decide_eq_false hle
            clear hT
            clear f2
            generalize wr.heap.size = gB at *
            go_wp2_with fail
            · exfalso
              rcases ‹_ ∨ _› with h | h
              · simp at h
                omega
              · exact hle h
            go_loopw [2, 5] (fun v2 v5 wq => ∃ (n : Int) (ys : List Int), v5 = .int .i64 n ∧ Aside0 (a + 1 ≤ n ∧ n ≤ b) ∧ Aside0 (ys.length ≤ 100 ∧ gapAdd (100 - ys.length) n b ys = T) ∧ Aside0 (Kd.R (Kd.int .i64) 2 wq w.heap.size (fun _ => True) v2 ys) ∧ Aside0 (Below w.heap.size w wq) ∧ Aside0 (Box9 wq 29 gB q0 q1 b q3 q4 q5 q6 q7 q8)) (fun _ v5 _ => (b - intOf v5).toNat)
            case atStart => exact ⟨a + 1, xs, rfl, ⟨by have := HRNG.out; omega⟩, ⟨⟨HX100.out, HT.out⟩⟩, HO1_, HB1_, BX_⟩
            case round =>
              obtain ⟨n, ys, rfl, HN, HY, HR2, HB2, HBX⟩ := hrel
              obtain ⟨A2, c2, rfl⟩ := Kd.R_slice HR2.out
              have cb := HBX.out.cells.2.2.1
              by_cases hnb : n < b
              · by_cases hfull : ys.length = 100
                · have HFULL := Aside0.mk hfull
                  have hfi : (ys.length : Int) = 100 := by omega
                  have hty : T = ys := by have h := HY.out.2; rw [hfull] at h; exact h.symm
                  have hr : ys = r := by
                    have h1 := HF.out
                    have h2 := gapsUpto_full l0 (j + 1 + 1) (l0.length - (j + 1 + 1)) (by rw [HGS.out, hty]; exact hfull)
                    rw [show j + 1 + 1 + (l0.length - (j + 1 + 1)) = l0.length by omega] at h2
                    rw [← h1, h2, HGS.out, hty]
                  have HRR := Aside0.mk hr
                  clear hty hr
                  go_wp2
                  rw [Exit.noGoto_ret]
                  go_ret
                  exact ⟨_, rfl, by rw [← HRR.out]; exact HR2.out, HB2.out⟩
                · have hy := HY.out.1
                  have hlen : (ys.length + 1) * 8 ≤ 140737488355328 := by omega
                  have hfi : ¬ (ys.length : Int) = 100 := by omega
                  have hwn : wrap64 (n + 1) = n + 1 := by rw [wrap64_eq]; have := HRNG.out; have := HN.out; omega
                  have HLEN := Aside0.mk hlen
                  have HWN := Aside0.mk hwn
                  clear hlen hy hwn
                  go_wp2_with (at_builtin; (refine Kd.R_append (Kd.int .i64) (w0 := w) w.heap.size rfl (.tmp 42) (.tmp 44) 25 2 (.int .i64 0) 8 rfl Try.underlying25 info2 rfl (by decide) (by decide) (.slice A2 ys.length c2) ys n [.int .i64 n] (fun _ => True) (fun _ => False) rfl rfl rfl (fun _ hk => hk.elim) (fun _ _ => trivial) HR2.out HB2.out HB2.out.size HLEN.out ?_; intro v3 w3 ho hb hg hat; have HR3 := Aside0.mk ho; have HB3 := Aside0.mk hb; have HBX3 : Aside0 (Box9 w3 29 gB q0 q1 b q3 q4 q5 q6 q7 q8) := ⟨(hg.block _ (blk_lt HBX.out) (fun e => Kd.R_ne HR2.out HBX.out (by decide) e)).trans HBX.out⟩; clear ho hb hg hat))
                  go_roundw
                  case rel => exact ⟨n + 1, ys ++ [n], (congrArg (Value.int .i64) HWN.out), ⟨by have := HN.out; omega⟩, ⟨by
                    have h1 := HY.out
                    refine ⟨by rw [List.length_append, List.length_singleton]; omega, ?_⟩
                    have h2 := h1.2
                    rw [show 100 - ys.length = (100 - (ys ++ [n]).length) + 1 by rw [List.length_append, List.length_singleton]; omega, gapAdd, if_pos hnb] at h2
                    exact h2⟩, HR3, HB3, HBX3⟩
                  case measure => exact meas2_ HWN.out hnb
              · have hnb2 : decide (n < b) = false := decide_eq_false hnb
                have hend : T = ys := by have h := HY.out.2; rw [gapAdd_done _ _ _ _ (by omega)] at h; exact h.symm
                have HE := Aside0.mk hend
                clear hend
                go_wp2
                go_roundw
                case rel => exact ⟨j + 2, ys, (congrArg (Value.int .i64) (by omega)), by omega, ⟨by rw [HGS.out, HE.out]⟩, HR2, HB2⟩
                case measure => exact meas_ HMAX.out (by omega)
      · have he : gapsUpto l0 l0.length = xs := by rw [← HX.out]; congr 1; omega
        have hr : xs = r := he.symm.trans HF.out
        subst hr
        have hlt2 : ¬ (i : Int) < (l0.length : Int) := by omega
        clear he
        go_wp2
        go_ret
        exact ⟨u2, rfl, HO.out, HB.out⟩
  · rw [if_neg hs] at h
    cases h
end Go.Proofs.Ytalpemoodollpaa.P
/- The forms of right messages, in a stream. -/
namespace Go.Proofs.Ytalpemoodollpaa.P
open Go.RowKit Go.Proofs.YtalpemoodollpaaW.PrintWords Go.Proofs.YtalpemoodollpaaW.PrintLast Go.Proofs.YtalpemoodollpaaW.PrintMore
set_option linter.unusedVariables false
set_option linter.unusedSimpArgs false
def I64s (l : List S29) : Prop := ∀ m ∈ l, i64B m.f6 = true ∧ i64B m.f7 = true
theorem strm_right (l : List S29) (h : ∀ m ∈ l, msgRight m = true) : ∀ acc, strm l acc = (acc ++ putAll (l.map msgForm), 0) := by
  induction l with
  | nil => intro acc; simp [strm, putAll]
  | cons m l ih =>
    intro acc
    rw [strm, if_pos (h m (by simp)), ih (fun x hx => h x (by simp [hx]))]
    simp [putAll]
theorem firstBad_forms (l : List S29) (h : ∀ m ∈ l, msgRight m = true) (h6 : I64s l) : firstBad (l.map msgForm) = 0 := by
  induction l with
  | nil => rfl
  | cons m l ih =>
    rw [List.map_cons, firstBad, msgDec_form m (h m (by simp)) (h6 m (by simp)).1 (h6 m (by simp)).2, if_neg (by simp)]
    exact ih (fun x hx => h x (by simp [hx])) (fun x hx => h6 x (by simp [hx]))
theorem msgsOf_forms (l : List S29) (h : ∀ m ∈ l, msgRight m = true) (h6 : I64s l) : msgsOf (l.map msgForm) = l := by
  induction l with
  | nil => rfl
  | cons m l ih =>
    have := ih (fun x hx => h x (by simp [hx])) (fun x hx => h6 x (by simp [hx]))
    unfold msgsOf at this ⊢
    rw [List.map_cons, List.map_cons, this, msgDec_form m (h m (by simp)) (h6 m (by simp)).1 (h6 m (by simp)).2]
theorem putAll_forms (l : List S29) (h : ∀ m ∈ l, msgRight m = true) : Byt (putAll (l.map msgForm)) ∧ (putAll (l.map msgForm)).length ≤ l.length * 57 := by
  induction l with
  | nil => exact ⟨fun x hx => by simp [putAll] at hx, by simp [putAll]⟩
  | cons m l ih =>
    obtain ⟨h1, h2⟩ := ih (fun x hx => h x (by simp [hx]))
    have hm := h m (by simp)
    have e : putAll ((m :: l).map msgForm) = putF (msgForm m) ++ putAll (l.map msgForm) := by simp [putAll]
    rw [e]
    refine ⟨(putF_byt (msgForm_byt m hm)).append h1, ?_⟩
    rw [List.length_append, List.length_cons]
    have := (putF_form m hm).2
    omega
theorem msgAll_forms (l : List S29) (h : ∀ m ∈ l, msgRight m = true) (h6 : I64s l) : msgAll (putAll (l.map msgForm)) = (l, 0) := by
  have hf := frames_put (l.map msgForm) (fun p hp => by
    obtain ⟨m, hm, rfl⟩ := List.mem_map.1 hp
    have := (msgForm_length m (h m hm)).1
    omega)
  unfold msgAll
  rw [hf]
  dsimp only
  rw [firstBad_forms l h h6, if_neg (by simp), if_neg (by simp), msgsOf_forms l h h6]
end Go.Proofs.Ytalpemoodollpaa.P
/- A feed that messages are put into, plain. -/
namespace Go.Proofs.Ytalpemoodollpaa.P
open Go.RowKit Go.Proofs.YtalpemoodollpaaW.PrintWords Go.Proofs.YtalpemoodollpaaW.PrintLast Go.Proofs.YtalpemoodollpaaW.PrintMore
set_option linter.unusedVariables false
set_option linter.unusedSimpArgs false
theorem snoc_ind {α : Type} {P : List α → Prop} (h0 : P []) (hs : ∀ l a, P l → P (l ++ [a])) (l : List α) : P l := by
  have h : ∀ r : List α, P r.reverse := by
    intro r
    induction r with
    | nil => exact h0
    | cons a r ih => rw [List.reverse_cons]; exact hs _ _ ih
  have := h l.reverse
  rwa [List.reverse_reverse] at this
def putStep (t : Int) (ms : List S29) (m : S29) : List S29 := if msgRight (putMsg ms t m) = true then ms ++ [putMsg ms t m] else ms
def putsOf (t : Int) (l : List S29) : List S29 := l.foldl (putStep t) []
theorem putsOf_snoc (t : Int) (l : List S29) (m : S29) : putsOf t (l ++ [m]) = putStep t (putsOf t l) m := by simp [putsOf]
theorem putsOf_length (t : Int) (l : List S29) : (putsOf t l).length ≤ l.length := by
  refine snoc_ind (P := fun l => (putsOf t l).length ≤ l.length) ?_ ?_ l
  · simp [putsOf]
  · intro l m ih
    rw [putsOf_snoc, putStep]
    split
    · rw [List.length_append, List.length_append]; simp; exact ih
    · rw [List.length_append]; omega
/-- What such a feed holds. -/
structure Fed (t : Int) (ms : List S29) : Prop where
  right : ∀ m ∈ ms, msgRight m = true
  i64 : I64s ms
  at_ : ∀ i : Nat, i < ms.length → (rd_T29 ms (i : Int)).f2 = (i : Int) + 1 ∧ (rd_T29 ms (i : Int)).f3 = t
theorem rd29_app (a : List S29) (m : S29) (i : Nat) (h : i < a.length) : rd_T29 (a ++ [m]) (i : Int) = rd_T29 a (i : Int) := by
  simp [rd_T29, List.getD_eq_getElem?_getD, List.getElem?_append_left h]
theorem rd29_last (a : List S29) (m : S29) : rd_T29 (a ++ [m]) (a.length : Int) = m := by
  simp [rd_T29, List.getD_eq_getElem?_getD]
theorem putsOf_fed (t : Int) (l : List S29) (h6 : I64s l) : Fed t (putsOf t l) := by
  revert h6
  refine snoc_ind (P := fun l => I64s l → Fed t (putsOf t l)) ?_ ?_ l
  · intro _; exact ⟨fun m hm => by simp [putsOf] at hm, fun m hm => by simp [putsOf] at hm, fun i hi => by simp [putsOf] at hi⟩
  · intro l m ih h6
    have ih := ih (fun x hx => h6 x (by simp [hx]))
    have hm := h6 m (by simp)
    rw [putsOf_snoc, putStep]
    split
    · rename_i hr
      refine ⟨fun x hx => ?_, fun x hx => ?_, fun i hi => ?_⟩
      · rcases List.mem_append.1 hx with h | h
        · exact ih.right x h
        · rw [List.mem_singleton.1 h]; exact hr
      · rcases List.mem_append.1 hx with h | h
        · exact ih.i64 x h
        · rw [List.mem_singleton.1 h]; exact hm
      · rw [List.length_append, List.length_singleton] at hi
        by_cases hlt : i < (putsOf t l).length
        · rw [rd29_app _ _ _ hlt]; exact ih.at_ i hlt
        · obtain rfl : i = (putsOf t l).length := by omega
          rw [rd29_last]
          exact ⟨rfl, rfl⟩
    · exact ih
theorem fed_gaps {t : Int} {ms : List S29} (h : Fed t ms) : ∀ i, i ≤ ms.length → gapsUpto ms i = [] := by
  intro i
  induction i with
  | zero => intro _; rfl
  | succ i ih =>
    intro hi
    rw [gapsUpto]
    by_cases h0 : i = 0
    · rw [if_pos h0]
    · rw [if_neg h0, ih (by omega), gapStep, gapAdd_done]
      rw [← rdT29_seq, ← rdT29_seq, (h.at_ i (by omega)).1, (h.at_ (i - 1) (by omega)).1]
      omega
theorem fed_gaps_f {t : Int} {ms : List S29} (h : Fed t ms) (hl : ms.length ≤ 1000000) : feed_Gaps.f ms = some [] := by
  have hs : seqsB ms = true := by
    unfold seqsB
    rw [List.all_eq_true]
    intro x hx
    obtain ⟨i, hi, rfl⟩ := List.getElem_of_mem hx
    have := (h.at_ i hi).1
    have e : rd_T29 ms (i : Int) = ms[i] := by rw [rd_T29, Int.toNat_natCast, List.getD_eq_getElem?_getD, List.getElem?_eq_getElem hi]; rfl
    rw [e] at this
    rw [this]
    exact within_iff.2 (by omega)
  unfold feed_Gaps.f
  rw [if_pos hs, fed_gaps h _ (Nat.le_refl _)]
theorem fed_drop {t : Int} {ms : List S29} (h : Fed t ms) (n : Nat) : strm (ms.drop n) [] = (putAll ((ms.drop n).map msgForm), 0) ∧ msgAll (putAll ((ms.drop n).map msgForm)) = (ms.drop n, 0) ∧ Byt (putAll ((ms.drop n).map msgForm)) ∧ (putAll ((ms.drop n).map msgForm)).length ≤ ms.length * 57 := by
  have hr : ∀ m ∈ ms.drop n, msgRight m = true := fun m hm => h.right m (List.mem_of_mem_drop hm)
  have h6 : I64s (ms.drop n) := fun m hm => h.i64 m (List.mem_of_mem_drop hm)
  have hp := putAll_forms (ms.drop n) hr
  refine ⟨by rw [strm_right _ hr, List.nil_append], msgAll_forms _ hr h6, hp.1, ?_⟩
  have := hp.2
  rw [List.length_drop] at this
  exact Nat.le_trans this (Nat.mul_le_mul_right _ (Nat.sub_le _ _))
end Go.Proofs.Ytalpemoodollpaa.P
/- message.All. -/
namespace Go.Proofs.Ytalpemoodollpaa.P
open Go.RowKit Go.Shelf Go.Proofs.YtalpemoodollpaaW.PrintWords Go.Proofs.YtalpemoodollpaaW.PrintLast Go.Proofs.YtalpemoodollpaaW.PrintMore
set_option linter.unusedVariables false
set_option linter.unusedSimpArgs false
attribute [local go_sem] Oper.semAt_some
def msgC (m : S29) : List Value := [.int .i64 m.f0, .int .i64 m.f1, .int .i64 m.f2, .int .i64 m.f3, .int .i64 m.f4, .int .i64 m.f5, .int .i64 m.f6, .int .i64 m.f7, .int .i64 m.f8]
theorem info29m : (Try.prog.info? 29).map (fun i => (i.zero, i.size, i.bytes)) = some (some (.agg #[.int .i64 0, .int .i64 0, .int .i64 0, .int .i64 0, .int .i64 0, .int .i64 0, .int .i64 0, .int .i64 0, .int .i64 0]), 9, 72) := by kernel_rfl
theorem k29_ne (t : Nat) (ht : 29 ≠ t) : ∀ q, q ∈ 29 :: k29.E → q ≠ t := by
  intro q hq
  simp [k29, Kd.iso, Kd.pair, Kd.int, Kd.scalar] at hq
  omega
theorem R29_set {w : World} {base : Nat} {ok : Nat → Prop} {v : Value} {xs : List S29} {g t : Nat} {cs : Array Value} (h : k29.R 29 w base ok v xs) (hb : w.heap[g]? = some (.cells cs t (0, 0))) (ht : 29 ≠ t) (i : Nat) (u : Value) : k29.R 29 (w.setCell ⟨g, i, none⟩ u) base ok v xs := by
  refine Kd.R_mono (Kd.R_far (p := ⟨g, i, none⟩) (Kd.R_bound h) ?_ u) (fun _ hk => hk.1)
  rintro k ⟨_, _, _, q, hq, cells, hc⟩ e
  have e : k = g := e
  subst e
  rw [hb] at hc
  injection hc with hc
  injection hc with _ hc
  exact k29_ne t ht q hq hc.symm
theorem R29_own {w W : World} {base : Nat} {ok : Nat → Prop} {v : Value} {xs : List S29} {B0 : Nat} {row : Option Nat} (h : k29.R 29 w base ok v xs) (hg : w.grownBy W row) (hr : ∀ r, row = some r → B0 ≤ r ∧ ∃ o : Obj, w.heap[r]? = some o ∧ o.isCells = false) : k29.R 29 W base ok v xs := by
  refine Kd.R_mono (Kd.R_grown (Kd.R_bound h) hg ?_) (fun _ hk => hk.1)
  rintro k ⟨_, _, _, q, hq, cells, hc⟩ e
  obtain ⟨_, o, ho, hc2⟩ := hr k e.symm
  rw [hc] at ho
  cases ho
  exact absurd hc2 (by simp [Obj.isCells])
/-- Between two rounds. -/
structure MI (w : World) (bv : Value) (ps : List (List Int)) (A : Option Addr) (m : Nat) (W : World) : Prop where
  bl : Below w.heap.size w W
  h2 : W.heap[w.heap.size]? = some (.cells #[.slice A ps.length m] 22 (0, 0))
  hR : Kd.R k29 29 W w.heap.size (fun _ => True) (.slice A ps.length m) (msgsOf ps)
  h3 : W.heap[w.heap.size + 1]? = some (.cells #[.int .i64 0] 31 (0, 0))
  h4 : W.heap[w.heap.size + 1 + 1]? = some (.cells #[.int .i64 (total ps : Int)] 3 (0, 0))
  hB : W.heap[w.heap.size + 1 + 1 + 1]? = some (.cells #[bv] 30 (0, 0))
  ok : firstBad ps = 0
theorem MI.own {w w7 : World} {bv : Value} {ps : List (List Int)} {A : Option Addr} {m : Nat} {X Y : World} {row : Option Nat} (h7 : w.heap.size ≤ w7.heap.size) (h : MI w bv ps A m X) (hg : X.grownBy Y row)
    (hr : ∀ r, row = some r → w7.heap.size ≤ r ∧ ∃ o : Obj, X.heap[r]? = some o ∧ o.isCells = false) : MI w bv ps A m Y :=
  ⟨h.bl.grown hg h.bl.size (fun k e => by have := (hr k e).1; omega), blk_own h.h2 hg hr, R29_own h.hR hg hr, blk_own h.h3 hg hr, blk_own h.h4 hg hr, blk_own h.hB hg hr, h.ok⟩
theorem MI.below {w : World} {bv : Value} {ps : List (List Int)} {A : Option Addr} {m : Nat} {X Y : World} (h : MI w bv ps A m X) (hb : Below X.heap.size X Y) : MI w bv ps A m Y :=
  ⟨below_then h.bl h.bl.size hb, blk_below h.h2 hb, Kd.R_below h.hR hb, blk_below h.h3 hb, blk_below h.h4 hb, blk_below h.hB hb, h.ok⟩
/-- The body's own word to the iterator. -/
theorem MI.kp {w : World} {bv : Value} {ps ps' : List (List Int)} {A A' : Option Addr} {m m' : Nat} {X Y : World} (h : MI w bv ps A m X) (h' : MI w bv ps' A' m' Y) (hs : X.heap.size ≤ Y.heap.size) : KpE w.heap.size (w.heap.size + 1 + 1 + 1) X Y :=
  ⟨⟨h'.bl.os.trans h.bl.os.symm, h'.bl.tape.trans h.bl.tape.symm, h'.bl.output.trans h.bl.output.symm, hs, fun k hk => (h'.bl.block k hk).trans (h.bl.block k hk).symm⟩, h'.hB.trans h.hB.symm⟩
theorem MI.step {w : World} {bv : Value} {ps : List (List Int)} {A A1 : Option Addr} {m m1 : Nat} {X Y : World} {p : List Int} {L : Nat} {E : Int} (h : MI w bv ps A m X) (hg : X.grownBy Y (Value.slice A ps.length m).ownBlock)
    (hR : Kd.R k29 29 Y w.heap.size (fun _ => True) (.slice A1 L m1) (msgsOf (ps ++ [p]))) (hL : L = ps.length + 1) (hp : (msgDec p).2 = 0) (hE : E = (total ps : Int) + 2 + p.length) :
    MI w bv (ps ++ [p]) A1 m1 ((Y.setCell ⟨w.heap.size, 0, none⟩ (.slice A1 L m1)).setCell ⟨w.heap.size + 1 + 1, 0, none⟩ (.int .i64 E)) := by
  subst hL
  have n2 := Kd.R_ne h.hR h.h2 (by decide)
  have n3 := Kd.R_ne h.hR h.h3 (by decide)
  have n4 := Kd.R_ne h.hR h.h4 (by decide)
  have nB := Kd.R_ne h.hR h.hB (by decide)
  have y2 := blk_grown h.h2 hg n2
  have y3 := blk_grown h.h3 hg n3
  have y4 := blk_grown h.h4 hg n4
  have yB := blk_grown h.hB hg nB
  obtain ⟨inn, ho⟩ := Kd.R_own h.hR
  have hbl := h.bl.grown hg h.bl.size (own_base ho)
  have z4 := blk_far y4 (p := ⟨w.heap.size, 0, none⟩) (by simp; omega) (.slice A1 (ps.length + 1) m1)
  refine ⟨(hbl.setCell (Nat.le_refl _) _).setCell (by simp; omega) _, ?_, ?_, ?_, ?_, ?_, firstBad_snoc h.ok hp⟩
  · rw [List.length_append, List.length_singleton]
    exact blk_far (blk_put y2 0 _ rfl) (by simp; omega) _
  · rw [List.length_append, List.length_singleton]
    exact R29_set (R29_set hR y2 (by decide) 0 _) z4 (by decide) 0 _
  · exact blk_far (blk_far y3 (by simp) _) (by simp) _
  · refine blk_put z4 0 _ ?_
    rw [hE, total_snoc, show ((total ps + (2 + p.length) : Nat) : Int) = (total ps : Int) + 2 + (p.length : Int) by omega]
    rfl
  · exact blk_far (blk_far yB (by simp; omega) _) (by simp) _
/-- A payload is no message. -/
structure MX (w : World) (f : Int) (W : World) : Prop where
  bl : Below w.heap.size w W
  h2 : W.heap[w.heap.size]? = some (.cells #[.slice none 0 0] 22 (0, 0))
  h3 : W.heap[w.heap.size + 1]? = some (.cells #[.int .i64 f] 31 (0, 0))
theorem MX.own {w w7 : World} {f : Int} {X Y : World} {row : Option Nat} (h7 : w.heap.size ≤ w7.heap.size) (h : MX w f X) (hg : X.grownBy Y row)
    (hr : ∀ r, row = some r → w7.heap.size ≤ r ∧ ∃ o : Obj, X.heap[r]? = some o ∧ o.isCells = false) : MX w f Y :=
  ⟨h.bl.grown hg h.bl.size (fun k e => by have := (hr k e).1; omega), blk_own h.h2 hg hr, blk_own h.h3 hg hr⟩
theorem MI.stop {w : World} {bv : Value} {ps : List (List Int)} {A : Option Addr} {m : Nat} {X : World} (h : MI w bv ps A m X) (f : Int) : MX w f ((X.setCell ⟨w.heap.size, 0, none⟩ (.slice none 0 0)).setCell ⟨w.heap.size + 1, 0, none⟩ (.int .i64 f)) :=
  ⟨(h.bl.setCell (Nat.le_refl _) _).setCell (by simp) _, blk_far (blk_put h.h2 0 _ rfl) (by simp) _, blk_put (blk_far h.h3 (by simp) _) 0 _ rfl⟩
theorem MX.below {w : World} {f : Int} {X : World} (h : MX w f X) (o : Obj) : MX w f (X.alloc o) :=
  ⟨h.bl.alloc h.bl.size _, blk_alloc h.h2 _, blk_alloc h.h3 _⟩
def MAllPost (w : World) (F : List S29 × Int) (e : Ending) (w' : World) : Prop :=
  ∃ v0_ : Value, e = .returned (.tuple #[v0_, .int .i64 F.2]) ∧ Kd.R k29 29 w' w.heap.size (fun _ => True) v0_ F.1 ∧ Below w.heap.size w w'
set_option maxRecDepth 100000 in
set_option maxHeartbeats 4000000 in
theorem mAll_calls (A0 : Option Addr) (c0 : Nat) (bs : List Int) (w : World) (hr0 : Kd.C (Kd.int .u8) w A0 bs.length bs) (hc0 : bs.length ≤ c0) (hl : bs.length ≤ 1000000) (hb : Byt bs) :
    Calls Try.prog 57 #[.slice A0 bs.length c0] w (MAllPost w (msgAll bs)) := by
  have hu29 := Try.underlying29
  have hRB : RB w A0 bs c0 := ⟨hr0, hc0, hb, by omega⟩
  have HRB := Aside0.mk hRB
  obtain ⟨l1, l2, l3⟩ := frames_last bs.length bs (Nat.le_refl _) hb
  have hle := frames_end bs hb
  generalize hG : msgAll bs = G
  have HG := Aside0.mk hG
  obtain ⟨N, hN⟩ : ∃ N, bs.length = N := ⟨_, rfl⟩
  have HN := Aside0.mk hN
  have HST0 := Aside0.mk (fun w7 hm hBs hbl => each_stops 3 (w.heap.size + 1 + 1 + 1) w.heap.size A0 c0 bs w w7 (by omega) hm hBs hRB rfl hbl hl)
  have HBY := Aside0.mk (frames_byt bs.length bs (Nat.le_refl _) hb)
  have HF := Aside0.mk (show msgAll bs = if firstBad (frames bs).1 ≠ 0 then ([], firstBad (frames bs).1) else if (frames bs).2.2 ≠ 0 then ([], (frames bs).2.2) else (msgsOf (frames bs).1, 0) from rfl)
  rw [hN] at hl l2 l3 hle HST0 ⊢
  generalize frames bs = FR at *
  obtain ⟨FF, en, ef⟩ := FR
  dsimp only at l1 l2 l3 hle HST0 HF HBY
  subst l1
  have L2 := Aside0.mk l2
  have L3 := Aside0.mk l3
  have hl2 : (N : Int) ≤ 1000000 := by omega
  clear hr0 hc0 hb hG hN hRB l2 l3
  refine (callsIn_wide (n := 4)).1 ?_
  refine callsIn_of_wp_marks Try.func57 rfl trivial ?_ rfl
  simp only [Try.ntmps57, List.size_toArray, List.length_cons, List.length_nil, Nat.reduceAdd, Nat.reduceSub, Array.replicate_succ, Array.replicate_zero, List.push_toArray, List.append_toArray, List.nil_append, List.cons_append]
  gi_wp2_with fail
  refine ⟨trivial, ?_⟩
  refine (callsIn_wide.2 (each_calls _ _ _ _)).mono ?_
  rintro e w7 ⟨rfl, e7⟩
  gi_wp2_with fail
  have E7 : MI w (.slice A0 N c0) [] none 0 ((((w.alloc (Obj.cells #[Value.slice none 0 0] 22)).alloc (Obj.cells #[Value.int IntKind.i64 0] 31)).alloc (Obj.cells #[Value.int IntKind.i64 0] 3)).alloc (Obj.cells #[Value.slice A0 N c0] 30)) := by
    have b1 := blk_new w (Obj.cells #[Value.slice none 0 0] 22)
    have b2 := blk_new (w.alloc (Obj.cells #[Value.slice none 0 0] 22)) (Obj.cells #[Value.int IntKind.i64 0] 31)
    have b3 := blk_new ((w.alloc (Obj.cells #[Value.slice none 0 0] 22)).alloc (Obj.cells #[Value.int IntKind.i64 0] 31)) (Obj.cells #[Value.int IntKind.i64 0] 3)
    have b4 := blk_new (((w.alloc (Obj.cells #[Value.slice none 0 0] 22)).alloc (Obj.cells #[Value.int IntKind.i64 0] 31)).alloc (Obj.cells #[Value.int IntKind.i64 0] 3)) (Obj.cells #[Value.slice A0 N c0] 30)
    simp only [World.size_alloc] at b2 b3 b4
    exact ⟨((((Below.refl _ w).alloc (Nat.le_refl _) _).alloc (by simp) _).alloc (by simp; omega) _).alloc (by simp; omega) _, blk_alloc (blk_alloc (blk_alloc b1 _) _) _, Kd.R_nil _ _ _ _ _, blk_alloc (blk_alloc b2 _) _, blk_alloc b3 _, b4, rfl⟩
  have hz7 : w.heap.size + 4 = ((((w.alloc (Obj.cells #[Value.slice none 0 0] 22)).alloc (Obj.cells #[Value.int IntKind.i64 0] 31)).alloc (Obj.cells #[Value.int IntKind.i64 0] 3)).alloc (Obj.cells #[Value.slice A0 N c0] 30)).heap.size := by simp
  clear e7
  generalize ((((w.alloc (Obj.cells #[Value.slice none 0 0] 22)).alloc (Obj.cells #[Value.int IntKind.i64 0] 31)).alloc (Obj.cells #[Value.int IntKind.i64 0] 3)).alloc (Obj.cells #[Value.slice A0 N c0] 30)) = w7 at *
  have hST := HST0.out w7 E7.bl.size E7.hB E7.bl
  have hw7 := E7.bl.size
  refine wpIn_rangeFunc_pr rfl (by omega) (gf := 111) (lb := #[.pointer (some ⟨w.heap.size + 1 + 1 + 1, 0, none⟩)]) rfl trivial (enters_of Try.func111 (by kernel_rfl) rfl)
    hST PrE.put (fun h k => h.t k) (fun W l o o' hl h h1 h2 => KpE.b (w := w7) (by omega) (by omega) W l o o' hl h h1 h2) (Below.refl _ _) (fun _ => rfl)
    (fun pre W => ∃ A m, MI w (.slice A0 N c0) (pre.map El.p) A m W)
    (fun c pre W => c = .ret ∧ ∃ ps p, pre.map El.p = ps ++ [p] ∧ firstBad ps = 0 ∧ (msgDec p).2 ≠ 0 ∧ MX w (msgDec p).2 W)
    (fun s A B row hs hg hr => by obtain ⟨X, m, h⟩ := hs; exact ⟨X, m, h.own (w7 := w7) hw7 hg hr⟩)
    (fun c s A B row hs hg hr => by obtain ⟨h0, ps, p, h1, h2, h3, h4⟩ := hs; exact ⟨h0, ps, p, h1, h2, h3, h4.own (w7 := w7) hw7 hg hr⟩)
    ⟨none, 0, E7⟩
    (fun x => { tmps := #[Value.slice A0 N c0, undef, Value.pointer (some { block := w.heap.size, off := 0 }),
          Value.pointer (some { block := w.heap.size + 1, off := 0 }),
          Value.pointer (some { block := w.heap.size + 1 + 1, off := 0 }), .int .i64 x.at_, x.v, undef, undef,
          Value.slice A0 N c0,
          Value.func (Fn.func 111) #[] #[Value.pointer (some { block := w.heap.size + 1 + 1 + 1, off := 0 })], .int .i64 x.at_, x.v, undef, undef, undef, undef, undef, undef, undef, undef, undef, undef, undef, undef, undef, undef, undef, undef, undef, undef, undef, undef, undef, undef, undef, undef, undef, undef, undef, undef, undef, undef, undef], defers := [] }) ?assign ?body ?done ?stop
  case assign =>
    intro l x W K hK
    simp only [encE]
    gi_wp2
    exact hK
  case body =>
    rintro l pre ⟨at_, v, p⟩ W ⟨A, m, hE⟩ ⟨A', c, hv, hq, hC⟩ hsp hlen
    have hcn := came_last hsp
    dsimp only at hv hq hC hcn ⊢
    subst hv
    obtain ⟨hpf, rfl⟩ := hcn
    have htl := total_prefix hpf
    rw [total_snoc] at htl
    have htg := total_ge (pre.map El.p)
    have hpl : p.length ≤ 1000000 := by omega
    have hbp : Byt p := HBY.out p (hpf.subset (by simp))
    have D8 := Aside0.mk (msgDec_calls A' c p W hC (by omega) hbp)
    have HE := Aside0.mk hE
    rw [List.length_map] at htg
    have hq2 : pre.length ≤ 1000000 := by omega
    generalize hps : pre.map El.p = ps at *
    have HPS := Aside0.mk hps
    generalize hT : total ps = T at *
    have HT := Aside0.mk hT
    have htl2 : (T : Int) + 2 + (p.length : Int) ≤ (N : Int) := by omega
    clear hE hq hC hsp htg hpl hbp hps hT
    generalize hM : msgDec p = M at *
    have HM := Aside0.mk hM
    clear hM
    obtain ⟨mm, mf⟩ := M
    dsimp only at D8
    gi_wp2_with fail
    refine ⟨trivial, ?_⟩
    refine (CallsIn.inRound l (callsIn_wide.2 D8.out)).mono ?_
    rintro e w8 ⟨rfl, hb8⟩
    have hE8 := HE.out.below hb8
    have HB8 := Aside0.mk hb8
    have HE8 := Aside0.mk hE8
    have d2_ : w8.cell? ⟨w.heap.size, 0, none⟩ = some (.slice A ps.length m) := (blk_cell hE8.h2 0).trans rfl
    have d3_ : w8.cell? ⟨w.heap.size + 1, 0, none⟩ = some (.int .i64 0) := (blk_cell hE8.h3 0).trans rfl
    have d4_ : w8.cell? ⟨w.heap.size + 1 + 1, 0, none⟩ = some (.int .i64 (T : Int)) := by have := (blk_cell hE8.h4 0).trans rfl; rw [HT.out] at this; exact this
    have f2_ := blk_frozen hE8.h2 0
    have f3_ := blk_frozen hE8.h3 0
    have f4_ := blk_frozen hE8.h4 0
    have hs2 := blk_lt hE8.h2
    have hs3 := blk_lt hE8.h3
    have hs4 := blk_lt hE8.h4
    have HEW := HE
    clear hb8 hE8 D8 HE
    by_cases hf : mf = 0
    · subst hf
      gi_wp2_with (gi_at_builtin; go_must (refine R_append_in k29 (w0 := w) w.heap.size rfl (.tmp 21) (.tmp 23) 22 29 _ 72 rfl Try.underlying22 info29m rfl (by decide) (by decide) (.slice A ps.length m) (msgsOf ps) mm (msgC mm) (fun _ => True) (fun _ => False) rfl (by rw [World.size_alloc]; rfl) (k29_mkM _ _ _ mm) (fun _ h => False.elim h) (fun _ _ => trivial) (Kd.R_alloc HE8.out.hR _) (below_alloc HE8.out.bl _) (by simp; omega) (by rw [msgsOf_length]; have := HPS.out; rw [← this, List.length_map]; omega) ?_; intro v1 w10 hR1 hB1 hg1 hat1; obtain ⟨A1, m1, e1⟩ := Kd.R_slice hR1; subst e1; have HR1 := Aside0.mk hR1; have HG1 := Aside0.mk hg1; have s10 : w8.heap.size ≤ w10.heap.size := Nat.le_trans (Nat.le_trans (Nat.le_succ _) (Nat.le_of_eq (World.size_alloc _ _).symm)) hg1.size; have y2 := blk_grown (blk_alloc HE8.out.h2 _) hg1 (Kd.R_ne HE8.out.hR HE8.out.h2 (by decide)); have y4 := blk_grown (blk_alloc HE8.out.h4 _) hg1 (Kd.R_ne HE8.out.hR HE8.out.h4 (by decide)); have n2_ : w10.cell? ⟨w.heap.size, 0, none⟩ = some (.slice A ps.length m) := (blk_cell y2 0).trans rfl; have m2_ := blk_frozen y2 0; have n4_ : w10.cell? ⟨w.heap.size + 1 + 1, 0, none⟩ = some (.int .i64 (T : Int)) := (by have := (blk_cell y4 0).trans rfl; rw [HT.out] at this; exact this); have m4_ := blk_frozen y4 0; clear y2 y4; clear hR1 hB1 hg1 hat1))
      have hM1 := HM.out
      have hXa := HE8.out.below (below_alloc (Below.refl _ w8) (.cells (msgC mm).toArray 29))
      have hS := hXa.step (p := p) (L := (msgsOf ps).length + 1) (E := (T : Int) + 2 + p.length) (A1 := A1) (m1 := m1) HG1.out (by rw [msgsOf_snoc, hM1]; have := HR1.out; rwa [List.length_append, List.length_singleton] at this) (by rw [msgsOf_length]) (by rw [hM1]) (by rw [HT.out])
      have hKO : KeepsOthers W ((w10.setCell ⟨w.heap.size, 0, none⟩ (.slice A1 ((msgsOf ps).length + 1) m1)).setCell ⟨w.heap.size + 1 + 1, 0, none⟩ (.int .i64 ((T : Int) + 2 + p.length))) :=
        ((((KeepsOthers.of_grownBy (row := none) (grown_of_below HB8.out none) (fun j o e => by cases e)).trans (KeepsOthers.alloc _ _)).trans (KeepsOthers.of_grownBy HG1.out (fun j o hj ho => by
          obtain ⟨cells, hc⟩ := Kd.R_typed hXa.hR j hj
          have := hc.symm.trans ho; injection this with this; subst this; rfl))).trans (KeepsOthers.setCell _ _ _)).trans (KeepsOthers.setCell _ _ _)
      exact ⟨hKO, HEW.out.kp hS hKO.size, ⟨A1, m1, by rw [List.map_append, HPS.out]; exact hS⟩⟩
    · have hff : (mf != 0) = true := by simpa using hf
      gi_wp2_with fail
      have hKO : KeepsOthers W ((w8.setCell ⟨w.heap.size, 0, none⟩ (.slice none 0 0)).setCell ⟨w.heap.size + 1, 0, none⟩ (.int .i64 mf)) :=
        ((KeepsOthers.of_grownBy (row := none) (grown_of_below HB8.out none) (fun j o e => by cases e)).trans (KeepsOthers.setCell _ _ _)).trans (KeepsOthers.setCell _ _ _)
      have hM1 := HM.out
      refine ⟨hKO.trans (KeepsOthers.alloc _ _), rfl, ps, p, by rw [List.map_append, HPS.out]; rfl, HE8.out.ok, by rw [hM1]; exact hf, ?_⟩
      rw [hM1]
      exact (HE8.out.stop mf).below _
  case done =>
    rintro D xs W hD hS ⟨A, m, hE⟩ hK
    have hxs := came_eq hS
    rw [hxs] at hE
    have d2_ : W.cell? ⟨w.heap.size, 0, none⟩ = some (.slice A FF.length m) := (blk_cell hE.h2 0).trans rfl
    have d3_ : W.cell? ⟨w.heap.size + 1, 0, none⟩ = some (.int .i64 0) := (blk_cell hE.h3 0).trans rfl
    have d4_ : W.cell? ⟨w.heap.size + 1 + 1, 0, none⟩ = some (.int .i64 (total FF : Int)) := (blk_cell hE.h4 0).trans rfl
    have f2_ := blk_frozen hE.h2 0
    have f3_ := blk_frozen hE.h3 0
    have f4_ := blk_frozen hE.h4 0
    have HE := Aside0.mk hE
    have HK := Aside0.mk hK
    have hT2 : (total FF : Int) ≤ (N : Int) := by omega
    clear hE hK hS hxs
    by_cases hTN : total FF = N
    · have hGe : G = (msgsOf FF, 0) := by
        rw [← HG.out, HF.out, if_neg (by rw [HE.out.ok]; simp), if_neg (by rw [L2.out hTN]; simp)]
      subst hGe
      generalize hTT : total FF = T at *
      subst hTN
      gi_wp2
      have y2 := blk_put HE.out.h2 0 (.slice A FF.length m) rfl
      have y3 := blk_put (blk_far HE.out.h3 (p := ⟨w.heap.size, 0, none⟩) (by simp) (.slice A FF.length m)) 0 (.int .i64 0) rfl
      have y2' := blk_far y2 (p := ⟨w.heap.size + 1, 0, none⟩) (by simp) (.int .i64 0)
      have c2_ := (blk_cell y2' 0).trans rfl
      have c3_ := (blk_cell y3 0).trans rfl
      have hK' := ((KeepsOthers.setCell W ⟨w.heap.size, 0, none⟩ (.slice A FF.length m)).trans (KeepsOthers.setCell _ ⟨w.heap.size + 1, 0, none⟩ (.int .i64 0))).same D _ HK.out rfl
      have hbl := (HE.out.bl.setCell (p := ⟨w.heap.size, 0, none⟩) (Nat.le_refl _) (.slice A FF.length m)).setCell (p := ⟨w.heap.size + 1, 0, none⟩) (by simp) (.int .i64 0)
      have hRf := R29_own (B0 := 0) (R29_set (R29_set HE.out.hR HE.out.h2 (by decide) 0 (.slice A FF.length m)) (blk_far HE.out.h3 (p := ⟨w.heap.size, 0, none⟩) (by simp) (.slice A FF.length m)) (by decide) 0 (.int .i64 0)) (grownBy_putObj' _ D (.deferred none)) (fun r e => by cases e; exact ⟨Nat.zero_le _, _, hK', rfl⟩)
      have hc2 := cell_kept c2_ (grownBy_putObj' _ D (.deferred none)) (fun r e => by cases e; exact ⟨_, hK', rfl⟩)
      have hc3 := cell_kept c3_ (grownBy_putObj' _ D (.deferred none)) (fun r e => by cases e; exact ⟨_, hK', rfl⟩)
      refine ⟨by simp, .inl ⟨_, _, rfl, run_takeDeferred hK', ?_⟩⟩
      refine ⟨.tuple #[.slice A FF.length m, .int .i64 0], ?_, ⟨.slice A FF.length m, rfl, hRf, hbl.trans (belowK_b (w := w) (Nat.le_refl _) _ D _ _ (by omega) hK' rfl rfl)⟩⟩
      simp [results, Try.f57, go_sem, hc2, hc3]
    · obtain ⟨hL3, hef⟩ := L3.out (by omega)
      have hGe : G = ([], ef) := by
        rw [← HG.out, HF.out, if_neg (by rw [HE.out.ok]; simp), if_pos hef]
      subst hGe
      obtain ⟨A', hcut, hrb', hall⟩ := HRB.out.cut (total FF) (by rw [HN.out]; omega)
      rw [HN.out] at hcut
      have TK := Aside0.mk (frame_Take.calls A' (c0 - total FF) (bs.drop (total FF)) (takeF (bs.drop (total FF))).1 (takeF (bs.drop (total FF))).2.1 (takeF (bs.drop (total FF))).2.2 W (Kd.C_below hrb'.hC HE.out.bl) hrb'.hc (show frame_Take.f (bs.drop (total FF)) = some (takeF (bs.drop (total FF))) by
        unfold frame_Take.f; rw [if_pos ⟨bytB_of hrb'.hb, hrb'.hl⟩]))
      clear hrb' hall
      rw [hL3] at TK
      clear hL3
      generalize (takeF (bs.drop (total FF))).1 = tp at *
      generalize (takeF (bs.drop (total FF))).2.1 = tn at *
      generalize (bs.drop (total FF)).length = DL at *
      gi_wp2_with fail
      refine ⟨trivial, ?_⟩
      refine (callsIn_wide.2 TK.out).mono ?_
      rintro e w4 ⟨v4, rfl, hR4, hb4⟩
      obtain ⟨X4, m4, rfl⟩ := Kd.R_slice hR4
      have hE4 := HE.out.below hb4
      have HE4 := Aside0.mk hE4
      have hK4 := (hb4.block D (Array.getElem?_eq_some_iff.1 HK.out).1).trans HK.out
      have HK4 := Aside0.mk hK4
      have d2_ : w4.cell? ⟨w.heap.size, 0, none⟩ = some (.slice A FF.length m) := (blk_cell hE4.h2 0).trans rfl
      have d3_ : w4.cell? ⟨w.heap.size + 1, 0, none⟩ = some (.int .i64 0) := (blk_cell hE4.h3 0).trans rfl
      have f2_ := blk_frozen hE4.h2 0
      have f3_ := blk_frozen hE4.h3 0
      clear hE4 hb4 TK HE HK hK4 hR4
      gi_wp2_with fail
      gi_region
      gi_wp2
      have y3 := blk_put HE4.out.h3 0 (.int .i64 ef) rfl
      have y2 := blk_put (blk_far HE4.out.h2 (p := ⟨w.heap.size + 1, 0, none⟩) (by simp) (.int .i64 ef)) 0 (.slice none 0 0) rfl
      have y3' := blk_put (blk_far y3 (p := ⟨w.heap.size, 0, none⟩) (by simp) (.slice none 0 0)) 0 (.int .i64 ef) rfl
      have y2' := blk_far y2 (p := ⟨w.heap.size + 1, 0, none⟩) (by simp) (.int .i64 ef)
      have c2_ := (blk_cell (blk_drew y2') 0).trans rfl
      have c3_ := (blk_cell (blk_drew y3') 0).trans rfl
      have hK' := ((((KeepsOthers.setCell w4 ⟨w.heap.size + 1, 0, none⟩ (.int .i64 ef)).trans (KeepsOthers.setCell _ ⟨w.heap.size, 0, none⟩ (.slice none 0 0))).trans (KeepsOthers.setCell _ ⟨w.heap.size + 1, 0, none⟩ (.int .i64 ef))).trans (KeepsOthers.drew _)).same D _ HK4.out rfl
      have hbl := below_drew1 (((HE4.out.bl.setCell (p := ⟨w.heap.size + 1, 0, none⟩) (by simp) (.int .i64 ef)).setCell (p := ⟨w.heap.size, 0, none⟩) (Nat.le_refl _) (.slice none 0 0)).setCell (p := ⟨w.heap.size + 1, 0, none⟩) (by simp) (.int .i64 ef))
      have hc2 := cell_kept c2_ (grownBy_putObj' _ D (.deferred none)) (fun r e => by cases e; exact ⟨_, hK', rfl⟩)
      have hc3 := cell_kept c3_ (grownBy_putObj' _ D (.deferred none)) (fun r e => by cases e; exact ⟨_, hK', rfl⟩)
      refine ⟨by simp, .inl ⟨_, _, rfl, run_takeDeferred hK', ?_⟩⟩
      refine ⟨.tuple #[.slice none 0 0, .int .i64 ef], ?_, ⟨.slice none 0 0, rfl, Kd.R_nil _ _ _ _ _, hbl.trans (belowK_b (w := w) (Nat.le_refl _) _ D _ _ (by omega) hK' rfl rfl)⟩⟩
      simp [results, Try.f57, go_sem, hc2, hc3]
  case stop =>
    rintro D c pre W hD hS ⟨rfl, ps, p, h1, h2, h3, h4⟩ hK
    obtain ⟨fs, hfs, hcs⟩ := hS
    have hxs := came_eq hcs
    rw [h1] at hxs
    have hfb := firstBad_stop h2 h3 (by rw [hxs]; exact hfs)
    have hGe : G = ([], (msgDec p).2) := by
      rw [← HG.out, HF.out, hfb, if_pos h3]
    subst hGe
    generalize (msgDec p).2 = mf at *
    have c2_ : W.cell? ⟨w.heap.size, 0, none⟩ = some (.slice none 0 0) := (blk_cell h4.h2 0).trans rfl
    have c3_ : W.cell? ⟨w.heap.size + 1, 0, none⟩ = some (.int .i64 mf) := (blk_cell h4.h3 0).trans rfl
    have hbl := h4.bl
    have hK' := hK
    gi_wp2
    have hc2 := cell_kept c2_ (grownBy_putObj' _ D (.deferred none)) (fun r e => by cases e; exact ⟨_, hK', rfl⟩)
    have hc3 := cell_kept c3_ (grownBy_putObj' _ D (.deferred none)) (fun r e => by cases e; exact ⟨_, hK', rfl⟩)
    refine ⟨by simp, .inl ⟨_, _, rfl, run_takeDeferred hK', ?_⟩⟩
    refine ⟨.tuple #[.slice none 0 0, .int .i64 mf], ?_, ⟨.slice none 0 0, rfl, Kd.R_nil _ _ _ _ _, hbl.trans (belowK_b (w := w) (Nat.le_refl _) _ D _ _ (by omega) hK' rfl rfl)⟩⟩
    simp [results, Try.f57, go_sem, hc2, hc3]
def message_All.f (l0 : List Int) : Option (List S29 × Int) := if bytB l0 = true ∧ l0.length ≤ 1000000 then some (msgAll l0) else none
theorem message_All.calls (A0 : Option Addr) (c0 : Nat) (l0 : List Int) (r1 : List S29) (r2 : Int) (w : World) (hr0 : Kd.C (Kd.int .u8) w A0 l0.length l0) (hc0 : l0.length ≤ c0) (h : message_All.f l0 = some (r1, r2)) :
    Calls Try.prog 57 #[.slice A0 l0.length c0] w fun e w' => ∃ v0_ : Value, e = .returned (.tuple #[v0_, .int .i64 r2]) ∧ Kd.R k29 29 w' w.heap.size (fun _ => True) v0_ r1 ∧ Below w.heap.size w w' := by
  unfold message_All.f at h
  by_cases hp : bytB l0 = true ∧ l0.length ≤ 1000000
  · rw [if_pos hp] at h
    have h := Option.some.inj h
    have := mAll_calls A0 c0 l0 w hr0 hc0 hp.2 (byt_of hp.1)
    rw [h] at this
    exact this
  · rw [if_neg hp] at h
    exact absurd h (by simp)
end Go.Proofs.Ytalpemoodollpaa.P
/- damperlaw26.alive. -/
namespace Go.Proofs.Ytalpemoodollpaa.P
open Go.RowKit FIn Go.Proofs.YtalpemoodollpaaW.PrintWords Go.Proofs.YtalpemoodollpaaW.PrintLast Go.Proofs.YtalpemoodollpaaW.PrintMore
set_option linter.unusedVariables false
set_option linter.unusedSimpArgs false
theorem FS.new (t : Nat) (w : World) : FS t (w.alloc (.cells #[.slice none 0 0] t)) w.heap.size none [] := ⟨_, blk_new w _, rfl, Kd.R_nil _ _ _ _ _⟩
set_option maxRecDepth 100000 in
theorem feed_New_calls (w : World) : Calls Try.prog 55 #[] w fun e w' => e = .returned (.pointer (some ⟨w.heap.size, 0, none⟩)) ∧ w' = w.alloc (.cells #[.slice none 0 0] 142) := by
  go_enter Try.func55, Try.ntmps55
  go_wp2
  go_ret
  exact ⟨rfl, rfl⟩
def l3 : List S29 := [⟨0, 0, 1, 0, 0, 0, 0, 0, 0⟩, ⟨0, 0, 2, 0, 0, 0, 0, 0, 0⟩, ⟨0, 0, 5, 0, 0, 0, 0, 0, 0⟩]
theorem l3_gaps : feed_Gaps.f l3 = some [3, 4] := by decide +kernel
theorem l3_C {W : World} {b : Nat} (h : W.heap[b]? = some (.cells #[.int .i64 0, .int .i64 0, .int .i64 1, .int .i64 0, .int .i64 0, .int .i64 0, .int .i64 0, .int .i64 0, .int .i64 0, .int .i64 0, .int .i64 0, .int .i64 2, .int .i64 0, .int .i64 0, .int .i64 0, .int .i64 0, .int .i64 0, .int .i64 0, .int .i64 0, .int .i64 0, .int .i64 5, .int .i64 0, .int .i64 0, .int .i64 0, .int .i64 0, .int .i64 0, .int .i64 0] 29 (0, 0))) :
    Kd.C k29 W (some ⟨b, 0, none⟩) l3.length l3 := by
  refine ⟨rfl, by decide, fun _ => ⟨_, rfl, fun j p hj => ?_⟩⟩
  have key : ∀ (n : Nat) (u : Value), (#[Value.int .i64 0, .int .i64 0, .int .i64 1, .int .i64 0, .int .i64 0, .int .i64 0, .int .i64 0, .int .i64 0, .int .i64 0, .int .i64 0, .int .i64 0, .int .i64 2, .int .i64 0, .int .i64 0, .int .i64 0, .int .i64 0, .int .i64 0, .int .i64 0, .int .i64 0, .int .i64 0, .int .i64 5, .int .i64 0, .int .i64 0, .int .i64 0, .int .i64 0, .int .i64 0, .int .i64 0] : Array Value)[n]? = some u → W.cell? ((⟨b, 0, none⟩ : Addr).add n) = some u := fun n u hu => by
    rw [add_plain]
    exact (blk_cell h n).trans hu
  have hlt : j < 3 := (List.getElem?_eq_some_iff.1 hj).1
  refine ⟨msgCells p, rfl, k29_mk W p, fun i u hu => key _ _ ?_⟩
  have hi : i < 9 := (List.getElem?_eq_some_iff.1 hu).1
  have hk : k29.sz = 9 := rfl
  rw [hk]
  match j, hlt with
  | 0, _ =>
    obtain rfl := Option.some.inj hj
    match i, hi with
    | 0, _ | 1, _ | 2, _ | 3, _ | 4, _ | 5, _ | 6, _ | 7, _ | 8, _ => exact hu
  | 1, _ =>
    obtain rfl := Option.some.inj hj
    match i, hi with
    | 0, _ | 1, _ | 2, _ | 3, _ | 4, _ | 5, _ | 6, _ | 7, _ | 8, _ => exact hu
  | 2, _ =>
    obtain rfl := Option.some.inj hj
    match i, hi with
    | 0, _ | 1, _ | 2, _ | 3, _ | 4, _ | 5, _ | 6, _ | 7, _ | 8, _ => exact hu
def damperlaw26_alive.f : Option Bool := some true
set_option maxRecDepth 100000 in
set_option maxHeartbeats 4000000 in
theorem damperlaw26_alive.calls (r : Bool) (w : World) (h : damperlaw26_alive.f = some r) : Calls Try.prog 25 #[] w fun e w' => e = .returned (.bool r) ∧ Below w.heap.size w w' := by
  obtain rfl := Option.some.inj h
  clear h
  have hP := fun g row w hs => feed_Put_calls g row [] 7 ⟨6, 0, 0, 0, 0, 0, 0, 0, 0⟩ w hs (by decide)
  have HP := Aside0.mk hP
  clear hP
  go_enter Try.func25, Try.ntmps25
  go_wp2_with fail
  refine (feed_New_calls w).mono ?_
  rintro e w1 ⟨rfl, rfl⟩
  have F1 := Aside0.mk (FS.new 142 w)
  go_wp2_with fail
  refine (HP.out w.heap.size none _ F1.out).mono ?_
  rintro e w2 ⟨hr, _⟩
  obtain ⟨rfl, hp⟩ := hr (by decide)
  clear hr
  have hB2 : Below w.heap.size w w2 := by
    obtain ⟨_, _, _, hf⟩ := hp
    exact Below.trans (below_alloc (Below.refl w.heap.size w) _) (hf.below (by simp) (fun k hk => hk.elim (fun e => by omega) (fun e => by cases e)))
  have B2 := Aside0.mk hB2
  clear hB2 hp F1 HP
  unfold msgVal putMsg
  dsimp only
  go_wp2_with fail
  have hbl := below_alloc (below_alloc B2.out (.cells #[.int .i64 6, .int .i64 0, .int .i64 1, .int .i64 7, .int .i64 0, .int .i64 0, .int .i64 0, .int .i64 0, .int .i64 0] 29)) (.cells #[.int .i64 0, .int .i64 0, .int .i64 1, .int .i64 0, .int .i64 0, .int .i64 0, .int .i64 0, .int .i64 0, .int .i64 0, .int .i64 0, .int .i64 0, .int .i64 2, .int .i64 0, .int .i64 0, .int .i64 0, .int .i64 0, .int .i64 0, .int .i64 0, .int .i64 0, .int .i64 0, .int .i64 5, .int .i64 0, .int .i64 0, .int .i64 0, .int .i64 0, .int .i64 0, .int .i64 0] 29)
  have hbox : Box9 ((w2.alloc (.cells #[.int .i64 6, .int .i64 0, .int .i64 1, .int .i64 7, .int .i64 0, .int .i64 0, .int .i64 0, .int .i64 0, .int .i64 0] 29)).alloc (.cells #[.int .i64 0, .int .i64 0, .int .i64 1, .int .i64 0, .int .i64 0, .int .i64 0, .int .i64 0, .int .i64 0, .int .i64 0, .int .i64 0, .int .i64 0, .int .i64 2, .int .i64 0, .int .i64 0, .int .i64 0, .int .i64 0, .int .i64 0, .int .i64 0, .int .i64 0, .int .i64 0, .int .i64 5, .int .i64 0, .int .i64 0, .int .i64 0, .int .i64 0, .int .i64 0, .int .i64 0] 29)) 29 w2.heap.size 6 0 1 7 0 0 0 0 0 := blk_alloc (blk_new w2 _) _
  have hlit := blk_new (w2.alloc (.cells #[.int .i64 6, .int .i64 0, .int .i64 1, .int .i64 7, .int .i64 0, .int .i64 0, .int .i64 0, .int .i64 0, .int .i64 0] 29)) (.cells #[.int .i64 0, .int .i64 0, .int .i64 1, .int .i64 0, .int .i64 0, .int .i64 0, .int .i64 0, .int .i64 0, .int .i64 0, .int .i64 0, .int .i64 0, .int .i64 2, .int .i64 0, .int .i64 0, .int .i64 0, .int .i64 0, .int .i64 0, .int .i64 0, .int .i64 0, .int .i64 0, .int .i64 5, .int .i64 0, .int .i64 0, .int .i64 0, .int .i64 0, .int .i64 0, .int .i64 0] 29)
  rw [World.size_alloc] at hlit
  have HLIT := Aside0.mk (l3_C hlit)
  have HBOX := Aside0.mk hbox
  have HBL := Aside0.mk hbl
  clear hlit hbox hbl
  refine (feed_Gaps.calls (some ⟨w2.heap.size + 1, 0, none⟩) 3 l3 [3, 4] _ HLIT.out (by decide) l3_gaps).mono ?_
  rintro e w3 ⟨v3, rfl, hR, hb⟩
  obtain ⟨A3, c3, rfl, hq, hC⟩ := Kd.R_reads hR
  have HB3 := Aside0.mk (Below.trans HBL.out (Below.mono hb HBL.out.size))
  have HBOX3 : Aside0 (Box9 w3 29 w2.heap.size 6 0 1 7 0 0 0 0 0) := ⟨(hb.block _ (blk_lt HBOX.out)).trans HBOX.out⟩
  obtain ⟨ad, hA, hc⟩ := (Kd.reads_of_C (d := (0 : Int)) hC).2.2 (by decide)
  subst hA
  have h0 : w3.cell? ad = some (.int .i64 3) := by have := hc 0 (by decide); simpa [Addr.add] using this
  have h1 : w3.cell? ⟨ad.block, ad.off + 1, none⟩ = some (.int .i64 4) := hc 1 (by decide)
  obtain ⟨d0, d1, d2, d3, d4, d5, d6, d7, d8⟩ := HBOX3.out.cells
  clear hb hR hC hc HLIT HBOX HBL hq
  go_wp2
  go_ret
  exact ⟨rfl, HB3.out⟩
end Go.Proofs.Ytalpemoodollpaa.P
/- The walk of FeedWhole. -/
namespace Go.Proofs.Ytalpemoodollpaa.P
open Go.RowKit Go.Shelf Go.Proofs.YtalpemoodollpaaW.PrintWords Go.Proofs.YtalpemoodollpaaW.PrintLast Go.Proofs.YtalpemoodollpaaW.PrintMore
set_option linter.unusedVariables false
set_option linter.unusedSimpArgs false
attribute [local go_sem] max2_int min2_int max_two min_two
theorem alive26_calls (w : World) : Calls Try.prog 25 #[] w fun e w' => e = .returned (.bool true) ∧ Below w.heap.size w w' := damperlaw26_alive.calls true w rfl
/-- Between two rounds of putting. -/
structure PI (w : World) (row : Option Nat) (ms : List S29) (W : World) : Prop where
  fs : FS 142 W w.heap.size row ms
  bl : Below w.heap.size w W
  rw_ : ∀ k, row = some k → w.heap.size ≤ k
theorem PI.post {w : World} {row : Option Nat} {ms ms' : List S29} {W W' : World} (h : PI w row ms W) (hp : FPost 142 W w.heap.size row ms' W') : ∃ row', PI w row' ms' W' := by
  obtain ⟨row', h1, h2, h3⟩ := hp
  refine ⟨row', h1, h.bl.trans (h3.below h.bl.size (fun k hk => ?_)), fun k hk => ?_⟩
  · rcases hk with rfl | hk
    · exact Nat.le_refl _
    · exact h.rw_ k hk
  · rcases h2 with e | ⟨b, e, hb⟩
    · exact h.rw_ k (by rw [← e]; exact hk)
    · rw [hk] at e; cases e; exact Nat.le_trans h.bl.size hb
theorem PI.below {w : World} {row : Option Nat} {ms : List S29} {W W' : World} (h : PI w row ms W) (hb : Below W.heap.size W W') : PI w row ms W' :=
  ⟨h.fs.below hb, below_then h.bl h.bl.size hb, h.rw_⟩
set_option maxRecDepth 100000 in
set_option maxHeartbeats 4000000 in
theorem feedWhole_calls (A0 : Option Addr) (c0 : Nat) (l : List S29) (seq : Int) (w : World) (hr0 : Kd.C k29 w A0 l.length l) (hc0 : l.length ≤ c0) (h6 : I64s l) :
    Calls Try.prog 10 #[.slice A0 l.length c0, .int .i64 seq] w fun e w' => e = .returned (.bool true) ∧ Below w.heap.size w w' := by
  have hu29 := Try.underlying29
  have HC := Aside0.mk hr0
  have HCC := Aside0.mk hc0
  have HFD := Aside0.mk (fun i => putsOf_fed 9 (l.take i) (fun m hm => h6 m (List.mem_of_mem_take hm)))
  have HA := Aside0.mk (alive26_calls)
  have hx := hr0.2.1
  by_cases hbig : 60 < l.length
  · have hbig2 : (60 : Int) < (l.length : Int) := by omega
    clear hr0 hc0 h6 hx
    go_enter Try.func10, Try.ntmps10
    go_wp2_with fail
    refine (HA.out _).mono ?_
    rintro e w1 ⟨rfl, hb1⟩
    go_wp2
    go_ret
    exact ⟨rfl, hb1⟩
  · have hs2 : (l.length : Int) ≤ 60 := by omega
    clear hr0 hc0 h6 hx
    go_enter Try.func10, Try.ntmps10
    go_wp2_with fail
    refine (feed_New_calls _).mono ?_
    rintro e w1 ⟨rfl, e1⟩
    have hP0 : Aside0 (PI w none [] w1) := ⟨by
      subst e1
      exact ⟨⟨.slice none 0 0, blk_new w _, rfl, Kd.R_nil _ _ _ _ _⟩, (Below.refl _ w).alloc (Nat.le_refl _) _, fun k e => by cases e⟩⟩
    clear e1
    go_wp2_with fail
    go_loopw [6, 7] (fun u6 u7 wr => ∃ (i : Nat) (row : Option Nat) (ms : List S29), u7 = .int .i64 (i : Int) ∧ u6 = .int .i64 (ms.length : Int) ∧ i ≤ l.length ∧ ms.length ≤ i ∧ Aside0 (ms = putsOf 9 (l.take i)) ∧ Aside0 (PI w row ms wr)) (fun _ u7 _ => (l.length - (intOf u7).toNat))
    case atStart => exact ⟨0, none, [], rfl, rfl, by omega, by simp, ⟨by simp [putsOf]⟩, hP0⟩
    case round =>
      obtain ⟨i, row, ms, rfl, rfl, hi, hmi, HMS, HPI⟩ := hrel
      by_cases hlt : i < l.length
      · have hCr := Kd.C_below HC.out HPI.out.bl
        obtain ⟨ad, rfl, p0, p1, p2, p3, p4, p5, p6, p7, p8⟩ := at_T29 hCr (i : Int) (by omega) (by omega)
        have hts : l.take (i + 1) = l.take i ++ [rd_T29 l (i : Int)] := by
          rw [rd_T29, Int.toNat_natCast, List.getD_eq_getElem?_getD, List.getElem?_eq_getElem hlt]
          exact List.take_succ_eq_append_getElem hlt
        generalize rd_T29 l (i : Int) = m at *
        have HTS := Aside0.mk hts
        rw [Int.toNat_natCast] at p0 p1 p2 p3 p4 p5 p6 p7 p8
        have HP := Aside0.mk (feed_Put_calls w.heap.size row ms 9 m wr HPI.out.fs (by omega))
        have hil : (i : Int) < (l.length : Int) := by omega
        have hmi2 : (ms.length : Int) ≤ (i : Int) := by omega
        clear hCr hts
        go_wp2_with fail
        refine HP.out.mono ?_
        rintro e w4 ⟨ht, hf⟩
        cases hrt : msgRight (putMsg ms 9 m) with
        | true =>
          obtain ⟨rfl, hp⟩ := ht hrt
          obtain ⟨row', hPI'⟩ := HPI.out.post hp
          have HPI' := Aside0.mk (hPI'.below (below_alloc (Below.refl _ w4) (.cells #[.int .i64 (putMsg ms 9 m).f0, .int .i64 (putMsg ms 9 m).f1, .int .i64 (putMsg ms 9 m).f2, .int .i64 (putMsg ms 9 m).f3, .int .i64 (putMsg ms 9 m).f4, .int .i64 (putMsg ms 9 m).f5, .int .i64 (putMsg ms 9 m).f6, .int .i64 (putMsg ms 9 m).f7, .int .i64 (putMsg ms 9 m).f8] 29)))
          have HMS2 : Aside0 (ms ++ [putMsg ms 9 m] = putsOf 9 (l.take (i + 1))) := ⟨by rw [HTS.out, putsOf_snoc, ← HMS.out, putStep, if_pos hrt]⟩
          clear ht hf hp hPI' HPI HP p0 p1 p2 p3 p4 p5 p6 p7 p8 hrt
          simp only [msgVal]
          generalize putMsg ms 9 m = q at *
          go_wp2
          go_roundw
          case rel => exact ⟨i + 1, row', ms ++ [q], by go_num, by rw [List.length_append, List.length_singleton]; go_num, by omega, by rw [List.length_append, List.length_singleton]; omega, HMS2, HPI'⟩
          case measure => simp [intOf]; omega
        | false =>
          obtain ⟨rfl, hp⟩ := hf hrt
          obtain ⟨row', hPI'⟩ := HPI.out.post hp
          have HPI' := Aside0.mk (hPI'.below (below_alloc (Below.refl _ w4) (.cells #[.int .i64 0, .int .i64 0, .int .i64 0, .int .i64 0, .int .i64 0, .int .i64 0, .int .i64 0, .int .i64 0, .int .i64 0] 29)))
          have HMS2 : Aside0 (ms = putsOf 9 (l.take (i + 1))) := ⟨by rw [HTS.out, putsOf_snoc, ← HMS.out, putStep, if_neg (by rw [hrt]; simp)]⟩
          clear ht hf hp hPI' HPI HP p0 p1 p2 p3 p4 p5 p6 p7 p8 hrt
          simp only [msgVal, z29]
          go_wp2
          go_roundw
          case rel => exact ⟨i + 1, row', ms, by go_num, rfl, by omega, by omega, HMS2, HPI'⟩
          case measure => simp [intOf]; omega
      · obtain rfl : i = l.length := by omega
        have hfd := HFD.out l.length
        rw [← HMS.out] at hfd
        have HFE := Aside0.mk hfd
        have BY := Aside0.mk (feed_Bytes_calls w.heap.size row ms 0 wr HPI.out.fs (by omega) hfd.i64)
        have hms : ms.length ≤ 60 := by omega
        have hms2 : (ms.length : Int) ≤ 60 := by omega
        clear hfd HFD HMS
        go_wp2_with fail
        refine BY.out.mono ?_
        rintro e w5 ⟨v5, rfl, hR5, hb5⟩
        have hs0 : sinceAt 0 ms.length = 0 := by unfold sinceAt; rw [if_neg (by omega)]; split <;> omega
        rw [hs0] at hR5
        obtain ⟨d1, d2, d3, d4⟩ := fed_drop HFE.out 0
        rw [d1, List.drop_zero] at hR5
        rw [List.drop_zero] at d2 d3 d4
        dsimp only at hR5
        obtain ⟨A5, c5, rfl⟩ := Kd.R_slice hR5
        have hrd := Kd.R_reads' hR5
        have hall := mAll_calls A5 c5 _ w5 hrd.2.2 hrd.2.1 (by omega) d3
        rw [d2] at hall
        have AL := Aside0.mk hall
        have P5 := Aside0.mk (HPI.out.below hb5)
        clear hR5 hrd d1 d2 d3 d4 hb5 BY HPI hall hs0
        generalize putAll (ms.map msgForm) = bb at *
        go_wp2_with fail
        refine AL.out.mono ?_
        rintro e w6 ⟨v6, rfl, hR6, hb6⟩
        dsimp only at hR6 ⊢
        obtain ⟨A6, c6, rfl⟩ := Kd.R_slice hR6
        have hrd := Kd.R_reads' hR6
        have C6 := Aside0.mk hrd.2.2
        have Q6 := Aside0.mk hrd.2.1
        have P6 := Aside0.mk (P5.out.below hb6)
        have GP := Aside0.mk (feed_Gaps.calls A6 c6 ms [] w6 hrd.2.2 hrd.2.1 (fed_gaps_f HFE.out (by omega)))
        clear hrd hR6 hb6 AL P5
        go_wp2_with fail
        refine GP.out.mono ?_
        rintro e w7 ⟨v7, rfl, hR7, hb7⟩
        obtain ⟨A7, c7, rfl⟩ := Kd.R_slice hR7
        have C7 := Aside0.mk (Kd.C_below C6.out hb7)
        have P7 := Aside0.mk (P6.out.below hb7)
        clear hR7 hb7 GP P6 C6
        simp only [List.length_nil]
        go_wp2_with fail
        go_loopw [12] (fun u12 wr2 => ∃ (j : Nat), u12 = .int .i64 (j : Int) ∧ j ≤ ms.length ∧ wr2 = w7) (fun u12 _ => (ms.length - (intOf u12).toNat))
        case atStart => exact ⟨0, rfl, by omega, rfl⟩
        case round =>
          obtain ⟨j, rfl, hj, rfl⟩ := hrel
          by_cases hjl : j < ms.length
          · obtain ⟨ad, rfl, p0, p1, p2, p3, p4, p5, p6, p7, p8⟩ := at_T29 C7.out (j : Int) (by omega) (by omega)
            have hat := HFE.out.at_ j hjl
            rw [hat.1, Int.toNat_natCast] at p2
            rw [hat.2, Int.toNat_natCast] at p3
            have hjl2 : (j : Int) < (ms.length : Int) := by omega
            clear p0 p1 p4 p5 p6 p7 p8 hat
            go_wp2
            go_roundw
            case rel => exact ⟨j + 1, by go_num, by omega, trivial⟩
            case measure => simp [intOf]; omega
          · obtain rfl : j = ms.length := by omega
            have BY2 := feed_Bytes_calls w.heap.size row ms seq _ P7.out.fs (by omega) HFE.out.i64
            have hNle : sinceAt seq ms.length ≤ ms.length := by
              unfold sinceAt
              split
              · omega
              · split <;> omega
            obtain ⟨d1, d2, d3, d4⟩ := fed_drop HFE.out (sinceAt seq ms.length)
            rw [d1] at BY2
            dsimp only at BY2
            have BY2 := Aside0.mk BY2
            have hdl : (ms.drop (sinceAt seq ms.length)).length = ms.length - sinceAt seq ms.length := List.length_drop
            have hSA := Aside0.mk (show sinceAt seq ms.length = if seq < 0 then 0 else if (ms.length : Int) < seq then ms.length else seq.toNat from rfl)
            obtain ⟨A', hcut, hkeep⟩ := cut22_ A6 ms.length c6 (sinceAt seq ms.length) hNle
            rw [← hdl] at hcut hkeep
            have HKP := Aside0.mk (fun W (h : Kd.C k29 W A6 ms.length ms) => hkeep W ms rfl Q6.out h)
            have HDZ := Aside0.mk (fun h : sinceAt seq ms.length = 0 => show ms.drop (sinceAt seq ms.length) = ms by rw [h, List.drop_zero])
            have hq10 : (ms.drop (sinceAt seq ms.length)).length ≤ c6 - sinceAt seq ms.length := by rw [hdl]; have := Q6.out; omega
            have HQ10 := Aside0.mk hq10
            have hysl : (ms.drop (sinceAt seq ms.length)).length ≤ 1000000 := by rw [hdl]; omega
            clear hkeep hdl d1 hq10
            generalize ms.drop (sinceAt seq ms.length) = ys at *
            generalize putAll (ys.map msgForm) = b2 at *
            generalize sinceAt seq ms.length = NN at *
            generalize c6 - NN = cc at *
            have D2 := Aside0.mk d2
            have D3 := Aside0.mk d3
            have D4 := Aside0.mk d4
            clear d2 d3 d4
            go_wp2_with fail
            refine BY2.out.mono ?_
            rintro e w8 ⟨v8, rfl, hR8, hb8⟩
            obtain ⟨A8, c8, rfl⟩ := Kd.R_slice hR8
            have hrd := Kd.R_reads' hR8
            have hall := mAll_calls A8 c8 _ w8 hrd.2.2 hrd.2.1 (by have := D4.out; omega) D3.out
            rw [D2.out] at hall
            have AL := Aside0.mk hall
            have P8 := Aside0.mk (P7.out.below hb8)
            have C8 := Aside0.mk (Kd.C_below C7.out hb8)
            clear hR8 hb8 hrd hall BY2
            go_wp2_with fail
            refine AL.out.mono ?_
            rintro e w9 ⟨v9, rfl, hR9, hb9⟩
            dsimp only at hR9 ⊢
            obtain ⟨A9, c9, rfl⟩ := Kd.R_slice hR9
            have hrd := Kd.R_reads' hR9
            have C9 := Aside0.mk hrd.2.2
            have Q9 := Aside0.mk hrd.2.1
            have P9 := Aside0.mk (P8.out.below hb9)
            have X9 := Aside0.mk (Kd.C_below C8.out hb9)
            clear hR9 hb9 hrd AL
            by_cases h0 : seq < 0
            · have hN0 : NN = 0 := by rw [hSA.out, if_pos h0]
              have hys := HDZ.out hN0
              subst hys
              have LS := Aside0.mk (damperref06_Lists.calls 1000002 A9 c9 ys A6 c6 ys true w9 C9.out Q9.out X9.out Q6.out (lists_refl ys hysl 1000002 (by omega)))
              clear hcut
              go_wp2_with fail
              refine LS.out.mono ?_
              rintro e w10 ⟨rfl, hd10⟩
              have B10 := Aside0.mk (below_then P9.out.bl P9.out.bl.size hd10.below)
              clear hd10
              go_wp2_with fail
              refine (HA.out _).mono ?_
              rintro e w11 ⟨rfl, hb11⟩
              have B11 := Aside0.mk (below_then B10.out B10.out.size hb11)
              clear hb11
              go_wp2
              go_ret
              exact ⟨rfl, B11.out⟩
            · have LS := Aside0.mk (damperref06_Lists.calls 1000002 A9 c9 ys A' cc ys true w9 C9.out Q9.out (HKP.out _ X9.out) HQ10.out (lists_refl ys hysl 1000002 (by omega)))
              by_cases h1 : (ms.length : Int) < seq
              · have hN1 : NN = ms.length := by rw [hSA.out, if_neg h0, if_pos h1]
                subst hN1
                go_wp2_with fail
                refine LS.out.mono ?_
                rintro e w10 ⟨rfl, hd10⟩
                have B10 := Aside0.mk (below_then P9.out.bl P9.out.bl.size hd10.below)
                clear hd10
                go_wp2_with fail
                refine (HA.out _).mono ?_
                rintro e w11 ⟨rfl, hb11⟩
                have B11 := Aside0.mk (below_then B10.out B10.out.size hb11)
                clear hb11
                go_wp2
                go_ret
                exact ⟨rfl, B11.out⟩
              · have hN2 : NN = seq.toNat := by rw [hSA.out, if_neg h0, if_neg h1]
                obtain rfl : seq = (NN : Int) := by omega
                clear hN2
                have hNi : (NN : Int) ≤ (ms.length : Int) := by omega
                go_wp2_with fail
                refine LS.out.mono ?_
                rintro e w10 ⟨rfl, hd10⟩
                have B10 := Aside0.mk (below_then P9.out.bl P9.out.bl.size hd10.below)
                clear hd10
                go_wp2_with fail
                refine (HA.out _).mono ?_
                rintro e w11 ⟨rfl, hb11⟩
                have B11 := Aside0.mk (below_then B10.out B10.out.size hb11)
                clear hb11
                go_wp2
                go_ret
                exact ⟨rfl, B11.out⟩
end Go.Proofs.Ytalpemoodollpaa.P
/- Bytes that came in are bytes. -/
namespace Go.Proofs.Ytalpemoodollpaa.P
open Go.RowKit Go.Proofs.YtalpemoodollpaaW.PrintWords Go.Proofs.YtalpemoodollpaaW.PrintLast Go.Proofs.YtalpemoodollpaaW.PrintMore
theorem byt_wf_ {l : List Int} (h : ∀ y ∈ l, (Lit.int .u8 y).wf = true) : Byt l := fun b hb => by
  have := bounds_u8 (h b hb)
  omega
end Go.Proofs.Ytalpemoodollpaa.P
