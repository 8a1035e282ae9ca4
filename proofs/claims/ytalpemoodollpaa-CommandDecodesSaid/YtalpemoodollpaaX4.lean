/- Contracts and plain laws: HBox, HRK, HDS, P96, P32, HMsgPure, PE0, PE1, Hcright, HcmdDec, HrefRd, P130, P90. -/
import Derived.RegionTactic
import Derived.Test.YtalpemoodollpaaX1
import Derived.Test.YtalpemoodollpaaX2
/- A box of nine numbers. -/
namespace Go.Proofs.Ytalpemoodollpaa.P
open Go.RowKit Go.Proofs.YtalpemoodollpaaW.PrintWords Go.Proofs.YtalpemoodollpaaW.PrintLast Go.Proofs.YtalpemoodollpaaW.PrintMore
set_option linter.unusedVariables false
set_option linter.unusedSimpArgs false

/-- A box of nine numbers at block b. -/
def Box9 (W : World) (t : Nat) (b : Nat) (x0 x1 x2 x3 x4 x5 x6 x7 x8 : Int) : Prop :=
  W.heap[b]? = some (.cells #[.int .i64 x0, .int .i64 x1, .int .i64 x2, .int .i64 x3, .int .i64 x4, .int .i64 x5, .int .i64 x6, .int .i64 x7, .int .i64 x8] t (0, 0))
theorem Box9.cells {W : World} {t b : Nat} {x0 x1 x2 x3 x4 x5 x6 x7 x8 : Int} (h : Box9 W t b x0 x1 x2 x3 x4 x5 x6 x7 x8) :
    W.cell? ⟨b, 0, none⟩ = some (.int .i64 x0) ∧ W.cell? ⟨b, 1, none⟩ = some (.int .i64 x1) ∧ W.cell? ⟨b, 2, none⟩ = some (.int .i64 x2) ∧ W.cell? ⟨b, 3, none⟩ = some (.int .i64 x3) ∧ W.cell? ⟨b, 4, none⟩ = some (.int .i64 x4) ∧
    W.cell? ⟨b, 5, none⟩ = some (.int .i64 x5) ∧ W.cell? ⟨b, 6, none⟩ = some (.int .i64 x6) ∧ W.cell? ⟨b, 7, none⟩ = some (.int .i64 x7) ∧ W.cell? ⟨b, 8, none⟩ = some (.int .i64 x8) :=
  ⟨(blk_cell h 0).trans rfl, (blk_cell h 1).trans rfl, (blk_cell h 2).trans rfl, (blk_cell h 3).trans rfl, (blk_cell h 4).trans rfl, (blk_cell h 5).trans rfl, (blk_cell h 6).trans rfl, (blk_cell h 7).trans rfl, (blk_cell h 8).trans rfl⟩

end Go.Proofs.Ytalpemoodollpaa.P
/- A reader of one's own, call by call. -/
namespace Go.Proofs.Ytalpemoodollpaa.P
open Go.RowKit Go.Proofs.YtalpemoodollpaaW.PrintWords Go.Proofs.YtalpemoodollpaaW.PrintLast Go.Proofs.YtalpemoodollpaaW.PrintMore
set_option linter.unusedVariables false
set_option linter.unusedSimpArgs false
/-- All blocks but g stay. -/
def KeepG (W W1 : World) (g : Nat) : Prop := ∀ (k : Nat) (o : Obj), W.heap[k]? = some o → k ≠ g → W1.heap[k]? = some o
/-- A reader at g, whose block and row lie at lo or behind; below the first world's end all is as it was. -/
structure RK (w0 W : World) (lo g : Nat) (s : List Int × Int) : Prop where
  ex : ∃ row, RS W g row s ∧ ∀ k, row = some k → lo ≤ k
  bel : Below w0.heap.size w0 W
  hlo : w0.heap.size ≤ lo
  hg : lo ≤ g
namespace RK
variable {w0 W W1 : World} {lo g : Nat} {s s1 : List Int × Int}
theorem of_post {row : Option Nat} (hr : ∀ k, row = some k → lo ≤ k) (hB : Below w0.heap.size w0 W) (hlo : w0.heap.size ≤ lo) (hg : lo ≤ g) (hp : RPost W g row s1 W1) : RK w0 W1 lo g s1 ∧ KeepG W W1 g :=
  ⟨⟨⟨row, hp.1, hr⟩, hB.trans (hp.2.below hB.size (fun k hk => by rw [hk]; omega)), hlo, hg⟩, fun k o h hne => hp.2.blk h hne⟩
theorem below (h : RK w0 W lo g s) (hb : Below W.heap.size W W1) : RK w0 W1 lo g s := by
  obtain ⟨⟨row, hs, hr⟩, hB, hlo, hg⟩ := h
  exact ⟨⟨row, hs.below hb, hr⟩, below_then hB hB.size hb, hlo, hg⟩
theorem alloc (h : RK w0 W lo g s) (o : Obj) : RK w0 (W.alloc o) lo g s := h.below (below_alloc (Below.refl _ _) _)
theorem set (h : RK w0 W lo g s) {b j : Nat} (h0 : w0.heap.size ≤ b) (hb : b < lo) (u : Value) : RK w0 (W.setCell ⟨b, j, none⟩ u) lo g s := by
  obtain ⟨⟨row, hs, hr⟩, hB, hlo, hg⟩ := h
  exact ⟨⟨row, hs.far (by omega) (fun e => by have := hr b e; omega) u, hr⟩, hB.setCell (p := ⟨b, j, none⟩) h0 u, hlo, hg⟩
theorem drewN (h : RK w0 W lo g s) (n : Nat) : RK w0 (W.drewN n) lo g s := h.below (pw_below_drewN (Below.refl _ _) n)
theorem bound (h : RK w0 W lo g s) : s.1.length ≤ 9223372036854775807 := by
  obtain ⟨⟨row, ⟨A, c, _, _, hC, _⟩, _⟩, _⟩ := h
  exact C_bound hC
theorem byt (h : RK w0 W lo g s) : Byt s.1 := by
  obtain ⟨⟨row, ⟨A, c, _, _, _, _, _, hb⟩, _⟩, _⟩ := h
  exact hb
theorem lt (h : RK w0 W lo g s) : g < W.heap.size := by
  obtain ⟨⟨row, hs, _⟩, _⟩ := h
  exact hs.lt
theorem uint (h : RK w0 W lo g s) (k : Int) :
    Calls Try.prog 104 #[.pointer (some ⟨g, 0, none⟩), .int .i64 k] W fun e w' => e = .returned (.int .u64 (rUint s k).1) ∧ RK w0 w' lo g (rUint s k).2 ∧ KeepG W w' g := by
  obtain ⟨⟨row, hs, hr⟩, hB, hlo, hg⟩ := h
  exact (octets_Reader_Uint.calls g row s k W hs).mono fun e w' ⟨he, hp⟩ => ⟨he, of_post hr hB hlo hg hp⟩
theorem int (h : RK w0 W lo g s) :
    Calls Try.prog 117 #[.pointer (some ⟨g, 0, none⟩)] W fun e w' => e = .returned (.int .i64 (unzig (rUint s 8).1)) ∧ RK w0 w' lo g (rUint s 8).2 ∧ KeepG W w' g := by
  obtain ⟨⟨row, hs, hr⟩, hB, hlo, hg⟩ := h
  exact (octets_Reader_Int.calls g row s W hs).mono fun e w' ⟨he, hp⟩ => ⟨he, of_post hr hB hlo hg hp⟩
theorem num (h : RK w0 W lo g s) :
    Calls Try.prog 100 #[.pointer (some ⟨g, 0, none⟩)] W fun e w' => e = .returned (.int .u64 (rNum s).1) ∧ RK w0 w' lo g (rNum s).2 ∧ KeepG W w' g := by
  obtain ⟨⟨row, hs, hr⟩, hB, hlo, hg⟩ := h
  exact (octets_Reader_Num.calls g row s W hs).mono fun e w' ⟨he, hp⟩ => ⟨he, of_post hr hB hlo hg hp⟩
theorem fault (h : RK w0 W lo g s) : Calls Try.prog 63 #[.pointer (some ⟨g, 0, none⟩)] W fun e w' => e = .returned (.int .i64 s.2) ∧ W = w' := by
  obtain ⟨⟨row, hs, hr⟩, hB, hlo, hg⟩ := h
  exact octets_Reader_Fault.calls g row s W hs
theorem left (h : RK w0 W lo g s) : Calls Try.prog 64 #[.pointer (some ⟨g, 0, none⟩)] W fun e w' => e = .returned (.int .i64 s.1.length) ∧ W = w' := by
  obtain ⟨⟨row, hs, hr⟩, hB, hlo, hg⟩ := h
  exact octets_Reader_Left.calls g row s W hs
/-- A new one. -/
theorem new (A : Option Addr) (c : Nat) (bs : List Int) (hB : Below w0.heap.size w0 W) (hr : Kd.C (Kd.int .u8) W A bs.length bs) (hl : bs.length ≤ 140737488355328) (hb : Byt bs) :
    Calls Try.prog 60 #[.slice A bs.length c] W fun e w' => ∃ g, e = .returned (.pointer (some ⟨g, 0, none⟩)) ∧ RK w0 w' W.heap.size g (bs, 0) ∧ Below W.heap.size W w' := by
  refine (octets_NewReader.calls A c bs W hr hl hb).mono ?_
  rintro e w' ⟨g, row, he, hs, hbl, hg, _, hrow⟩
  exact ⟨g, he, ⟨⟨row, hs, hrow⟩, below_then hB hB.size hbl, hB.size, hg⟩, hbl⟩
end RK
theorem KeepG.box {W W1 : World} {g t b : Nat} {x0 x1 x2 x3 x4 x5 x6 x7 x8 : Int} (h : KeepG W W1 g) (hb : Box9 W t b x0 x1 x2 x3 x4 x5 x6 x7 x8) (hne : b ≠ g) : Box9 W1 t b x0 x1 x2 x3 x4 x5 x6 x7 x8 := h _ _ hb hne
theorem rUint1_range (s : List Int × Int) (h : Byt s.1) : 0 ≤ (rUint s 1).1 ∧ (rUint s 1).1 ≤ 255 := by
  obtain ⟨l, f⟩ := s
  have z : (0 : Int) ≤ 0 ∧ (0 : Int) ≤ 255 := by decide
  unfold rUint
  rw [if_neg (by decide), show (1 : Int).toNat = 1 from rfl]
  unfold rTake
  split
  · exact z
  · split
    · exact z
    · cases l with
      | nil => exact z
      | cons b bs =>
        have hb := (Byt.cons h).1
        have e : beNum [b] = b := by simp [beNum]
        simp only [List.take_succ_cons, List.take_zero, e]
        exact hb
theorem z64 : (0 : Int) ≤ 0 ∧ (0 : Int) < 18446744073709551616 := by decide
theorem byt_rTake (s : List Int × Int) (n : Nat) (h : Byt s.1) : Byt (rTake s n).2.2.1 := by
  unfold rTake
  split
  · exact h
  · split
    · exact h
    · exact h.drop n
theorem byt_rUint (s : List Int × Int) (k : Int) (h : Byt s.1) : Byt (rUint s k).2.1 := by
  unfold rUint
  split
  · exact h
  · exact byt_rTake s _ h
theorem byt_numGo (k : Nat) : ∀ (i : Nat) (n : Int) (l : List Int), Byt l → Byt (numGo k i n l).2.1 := by
  induction k with
  | zero => intro i n l h; exact h
  | succ k ih =>
    intro i n l h
    cases l with
    | nil => exact Byt.nil
    | cons b bs =>
      rw [numGo]
      split
      · exact h.cons.2
      · split
        · exact ih _ _ _ h.cons.2
        · split <;> exact h.cons.2
theorem byt_rNum (s : List Int × Int) (h : Byt s.1) : Byt (rNum s).2.1 := by
  unfold rNum
  split
  · exact h
  · exact byt_numGo _ _ _ _ h
theorem numGo_range (j : Nat) : ∀ (i : Nat) (n : Int) (l : List Int), Byt l → i + j = 9 → 0 ≤ n → n < ((128 ^ i : Nat) : Int) → 0 ≤ (numGo (j + 1) i n l).1 ∧ (numGo (j + 1) i n l).1 < 18446744073709551616 := by
  induction j with
  | zero =>
    intro i n l h hi h0 h1
    obtain rfl : i = 9 := by omega
    have e9 : ((128 ^ 9 : Nat) : Int) = 9223372036854775808 := by decide
    rw [e9] at h1
    cases l with
    | nil => exact z64
    | cons b bs =>
      have hb := h.cons.1
      rw [numGo]
      split
      · exact z64
      · split
        · exact z64
        · split
          · exact z64
          · rw [e9]
            simp only
            omega
  | succ j ih =>
    intro i n l h hi h0 h1
    cases l with
    | nil => exact z64
    | cons b bs =>
      have hb := h.cons.1
      have hp : (0 : Int) < ((128 ^ i : Nat) : Int) := by exact_mod_cast Nat.pos_of_ne_zero (by simp)
      have hle : ((128 ^ (i + 1) : Nat) : Int) ≤ 9223372036854775808 := by
        have : 128 ^ (i + 1) ≤ 128 ^ 9 := Nat.pow_le_pow_right (by decide) (by omega)
        have e9 : (128 ^ 9 : Nat) = 9223372036854775808 := by decide
        omega
      have hsucc : ((128 ^ (i + 1) : Nat) : Int) = ((128 ^ i : Nat) : Int) * 128 := by rw [Nat.pow_succ]; exact Int.natCast_mul _ _
      have h2 : 0 ≤ b % 128 := by omega
      have h3 : b % 128 ≤ 127 := by omega
      have hm0 : 0 ≤ b % 128 * ((128 ^ i : Nat) : Int) := Int.mul_nonneg h2 (by omega)
      have hm1 : b % 128 * ((128 ^ i : Nat) : Int) ≤ 127 * ((128 ^ i : Nat) : Int) := Int.mul_le_mul_of_nonneg_right h3 (by omega)
      rw [numGo]
      split
      · exact z64
      · split
        · exact ih _ _ _ h.cons.2 (by omega) (by omega) (by omega)
        · split
          · exact z64
          · simp only
            omega
theorem rNum_range (s : List Int × Int) (h : Byt s.1) : 0 ≤ (rNum s).1 ∧ (rNum s).1 < 18446744073709551616 := by
  unfold rNum
  split
  · exact z64
  · exact numGo_range 9 0 0 s.1 h (by omega) (by decide) (by decide)
theorem unzig_range (n : Int) (h0 : 0 ≤ n) (h1 : n < 18446744073709551616) : -9223372036854775808 ≤ unzig n ∧ unzig n ≤ 9223372036854775807 := by
  unfold unzig; split <;> omega
end Go.Proofs.Ytalpemoodollpaa.P
/- The state of a decoding: a reader of one's own, the nine fields. -/
namespace Go.Proofs.Ytalpemoodollpaa.P
open Go.RowKit Go.Proofs.YtalpemoodollpaaW.PrintWords Go.Proofs.YtalpemoodollpaaW.PrintLast Go.Proofs.YtalpemoodollpaaW.PrintMore
set_option linter.unusedVariables false
set_option linter.unusedSimpArgs false
structure DS (w W : World) (t b4 g lo : Nat) (s : List Int × Int) (x0 x1 x2 x3 x4 x5 x6 x7 x8 : Int) : Prop where
  rk : RK w W lo g s
  bx : Box9 W t w.heap.size x0 x1 x2 x3 x4 x5 x6 x7 x8
  c4 : W.heap[b4]? = some (.cells #[.pointer (some ⟨g, 0, none⟩)] 78 (0, 0))
  hb : w.heap.size < lo
  h4 : b4 ≠ g
  h5 : b4 ≠ w.heap.size
namespace DS
variable {w W W1 : World} {t b4 g lo : Nat} {s s1 : List Int × Int} {x0 x1 x2 x3 x4 x5 x6 x7 x8 : Int}
theorem step (h : DS w W t b4 g lo s x0 x1 x2 x3 x4 x5 x6 x7 x8) (hk : RK w W1 lo g s1) (kg : KeepG W W1 g) : DS w W1 t b4 g lo s1 x0 x1 x2 x3 x4 x5 x6 x7 x8 :=
  ⟨hk, kg.box h.bx (by have := h.rk.hg; have := h.hb; omega), kg _ _ h.c4 h.h4, h.hb, h.h4, h.h5⟩
theorem below (h : DS w W t b4 g lo s x0 x1 x2 x3 x4 x5 x6 x7 x8) (hb : Below W.heap.size W W1) : DS w W1 t b4 g lo s x0 x1 x2 x3 x4 x5 x6 x7 x8 :=
  ⟨h.rk.below hb, (hb.block _ (blk_lt h.bx)).trans h.bx, (hb.block _ (blk_lt h.c4)).trans h.c4, h.hb, h.h4, h.h5⟩
theorem num (h : DS w W t b4 g lo s x0 x1 x2 x3 x4 x5 x6 x7 x8) : Calls Try.prog 100 #[.pointer (some ⟨g, 0, none⟩)] W fun e w' => e = .returned (.int .u64 (rNum s).1) ∧ DS w w' t b4 g lo (rNum s).2 x0 x1 x2 x3 x4 x5 x6 x7 x8 :=
  h.rk.num.mono fun e w' ⟨he, hk, kg⟩ => ⟨he, h.step hk kg⟩
theorem int (h : DS w W t b4 g lo s x0 x1 x2 x3 x4 x5 x6 x7 x8) : Calls Try.prog 117 #[.pointer (some ⟨g, 0, none⟩)] W fun e w' => e = .returned (.int .i64 (unzig (rUint s 8).1)) ∧ DS w w' t b4 g lo (rUint s 8).2 x0 x1 x2 x3 x4 x5 x6 x7 x8 :=
  h.rk.int.mono fun e w' ⟨he, hk, kg⟩ => ⟨he, h.step hk kg⟩
theorem cell (h : DS w W t b4 g lo s x0 x1 x2 x3 x4 x5 x6 x7 x8) : W.cell? ⟨b4, 0, none⟩ = some (.pointer (some ⟨g, 0, none⟩)) := (blk_cell h.c4 0).trans rfl
theorem set0 (h : DS w W t b4 g lo s x0 x1 x2 x3 x4 x5 x6 x7 x8) (v : Int) : DS w (W.setCell ⟨w.heap.size, 0, none⟩ (.int .i64 v)) t b4 g lo s v x1 x2 x3 x4 x5 x6 x7 x8 :=
  ⟨h.rk.set (Nat.le_refl _) h.hb _, (blk_set h.bx 0 (.int .i64 v)).trans (by simp), (Below.heap_setCell W ⟨w.heap.size, 0, none⟩ _ b4 h.h5).trans h.c4, h.hb, h.h4, h.h5⟩
theorem set1 (h : DS w W t b4 g lo s x0 x1 x2 x3 x4 x5 x6 x7 x8) (v : Int) : DS w (W.setCell ⟨w.heap.size, 1, none⟩ (.int .i64 v)) t b4 g lo s x0 v x2 x3 x4 x5 x6 x7 x8 :=
  ⟨h.rk.set (Nat.le_refl _) h.hb _, (blk_set h.bx 1 (.int .i64 v)).trans (by simp), (Below.heap_setCell W ⟨w.heap.size, 1, none⟩ _ b4 h.h5).trans h.c4, h.hb, h.h4, h.h5⟩
theorem set2 (h : DS w W t b4 g lo s x0 x1 x2 x3 x4 x5 x6 x7 x8) (v : Int) : DS w (W.setCell ⟨w.heap.size, 2, none⟩ (.int .i64 v)) t b4 g lo s x0 x1 v x3 x4 x5 x6 x7 x8 :=
  ⟨h.rk.set (Nat.le_refl _) h.hb _, (blk_set h.bx 2 (.int .i64 v)).trans (by simp), (Below.heap_setCell W ⟨w.heap.size, 2, none⟩ _ b4 h.h5).trans h.c4, h.hb, h.h4, h.h5⟩
theorem set3 (h : DS w W t b4 g lo s x0 x1 x2 x3 x4 x5 x6 x7 x8) (v : Int) : DS w (W.setCell ⟨w.heap.size, 3, none⟩ (.int .i64 v)) t b4 g lo s x0 x1 x2 v x4 x5 x6 x7 x8 :=
  ⟨h.rk.set (Nat.le_refl _) h.hb _, (blk_set h.bx 3 (.int .i64 v)).trans (by simp), (Below.heap_setCell W ⟨w.heap.size, 3, none⟩ _ b4 h.h5).trans h.c4, h.hb, h.h4, h.h5⟩
theorem set4 (h : DS w W t b4 g lo s x0 x1 x2 x3 x4 x5 x6 x7 x8) (v : Int) : DS w (W.setCell ⟨w.heap.size, 4, none⟩ (.int .i64 v)) t b4 g lo s x0 x1 x2 x3 v x5 x6 x7 x8 :=
  ⟨h.rk.set (Nat.le_refl _) h.hb _, (blk_set h.bx 4 (.int .i64 v)).trans (by simp), (Below.heap_setCell W ⟨w.heap.size, 4, none⟩ _ b4 h.h5).trans h.c4, h.hb, h.h4, h.h5⟩
theorem set5 (h : DS w W t b4 g lo s x0 x1 x2 x3 x4 x5 x6 x7 x8) (v : Int) : DS w (W.setCell ⟨w.heap.size, 5, none⟩ (.int .i64 v)) t b4 g lo s x0 x1 x2 x3 x4 v x6 x7 x8 :=
  ⟨h.rk.set (Nat.le_refl _) h.hb _, (blk_set h.bx 5 (.int .i64 v)).trans (by simp), (Below.heap_setCell W ⟨w.heap.size, 5, none⟩ _ b4 h.h5).trans h.c4, h.hb, h.h4, h.h5⟩
theorem set6 (h : DS w W t b4 g lo s x0 x1 x2 x3 x4 x5 x6 x7 x8) (v : Int) : DS w (W.setCell ⟨w.heap.size, 6, none⟩ (.int .i64 v)) t b4 g lo s x0 x1 x2 x3 x4 x5 v x7 x8 :=
  ⟨h.rk.set (Nat.le_refl _) h.hb _, (blk_set h.bx 6 (.int .i64 v)).trans (by simp), (Below.heap_setCell W ⟨w.heap.size, 6, none⟩ _ b4 h.h5).trans h.c4, h.hb, h.h4, h.h5⟩
theorem set7 (h : DS w W t b4 g lo s x0 x1 x2 x3 x4 x5 x6 x7 x8) (v : Int) : DS w (W.setCell ⟨w.heap.size, 7, none⟩ (.int .i64 v)) t b4 g lo s x0 x1 x2 x3 x4 x5 x6 v x8 :=
  ⟨h.rk.set (Nat.le_refl _) h.hb _, (blk_set h.bx 7 (.int .i64 v)).trans (by simp), (Below.heap_setCell W ⟨w.heap.size, 7, none⟩ _ b4 h.h5).trans h.c4, h.hb, h.h4, h.h5⟩
theorem set8 (h : DS w W t b4 g lo s x0 x1 x2 x3 x4 x5 x6 x7 x8) (v : Int) : DS w (W.setCell ⟨w.heap.size, 8, none⟩ (.int .i64 v)) t b4 g lo s x0 x1 x2 x3 x4 x5 x6 x7 v :=
  ⟨h.rk.set (Nat.le_refl _) h.hb _, (blk_set h.bx 8 (.int .i64 v)).trans (by simp), (Below.heap_setCell W ⟨w.heap.size, 8, none⟩ _ b4 h.h5).trans h.c4, h.hb, h.h4, h.h5⟩
theorem frozen (h : DS w W t b4 g lo s x0 x1 x2 x3 x4 x5 x6 x7 x8) : W.frozen? ⟨w.heap.size, 0, none⟩ = false ∧ W.frozen? ⟨w.heap.size, 1, none⟩ = false ∧ W.frozen? ⟨w.heap.size, 2, none⟩ = false ∧ W.frozen? ⟨w.heap.size, 3, none⟩ = false ∧ W.frozen? ⟨w.heap.size, 4, none⟩ = false ∧ W.frozen? ⟨w.heap.size, 5, none⟩ = false ∧ W.frozen? ⟨w.heap.size, 6, none⟩ = false ∧ W.frozen? ⟨w.heap.size, 7, none⟩ = false ∧ W.frozen? ⟨w.heap.size, 8, none⟩ = false :=
  ⟨blk_frozen h.bx 0, blk_frozen h.bx 1, blk_frozen h.bx 2, blk_frozen h.bx 3, blk_frozen h.bx 4, blk_frozen h.bx 5, blk_frozen h.bx 6, blk_frozen h.bx 7, blk_frozen h.bx 8⟩
end DS
end Go.Proofs.Ytalpemoodollpaa.P
-- Printed by hookprint.py (the session's own program, over the kit's print.py): checked by Lean like any text.
namespace Go.Proofs.Ytalpemoodollpaa.P
open Go.RowKit Go.Proofs.YtalpemoodollpaaW.PrintWords Go.Proofs.YtalpemoodollpaaW.PrintLast Go.Proofs.YtalpemoodollpaaW.PrintMore
attribute [local go_sem] max2_int min2_int max_two min_two max_three min_three max_four min_four   -- for this text's walks alone
set_option linter.unusedVariables false
set_option linter.unusedSimpArgs false

/-! ### message_within: function 96 -/
def message_within.l0 : Nat → Int → Int → List Int → Int → Int → Option (Bool)
  | 0, _, _, _, _, _ => none
  | k + 1, x0, x1, x9, x10, x11 => if x11 < x10 then (if 0 ≤ x11 then (if x11 < (x9.length : Int) then (if (rd x9 x11) < x0 then (some false) else (if (rd x9 x11) > x1 then (some false) else (message_within.l0 k x0 x1 x9 x10 (wrap64 (x11 + 1))))) else (none)) else (none)) else (some true)
def message_within.f (k : Nat) (a0 : Int) (a1 : Int) (l2 : List Int) : Option (Bool) := message_within.l0 k a0 a1 l2 (l2.length : Int) 0
theorem message_within.mono_l : ∀ k, (∀ y0 y1 y2 y3 y4, LeO (message_within.l0 k y0 y1 y2 y3 y4) (message_within.l0 (k + 1) y0 y1 y2 y3 y4))
  | 0 => fun _ _ _ _ _ r h => by simp [message_within.l0] at h
  | k + 1 => by
    have ih0 := message_within.mono_l k
    · intro y0 y1 y2 y3 y4
      unfold message_within.l0
      repeat' first
      | (with_reducible exact ih0 _ _ _ _ _)
      | (with_reducible exact LeO.refl _)
      | (with_reducible exact LeO.none _)
      | (with_reducible refine LeO.ite ?_ ?_)
      | (with_reducible refine LeO.bind ?_ (fun _ => ?_))
      | exact ih0 _ _ _ _ _
      | exact LeO.none _
      | refine LeO.ite ?_ ?_
      | refine LeO.bind ?_ (fun _ => ?_)
theorem message_within.mono : ∀ a0 a1 a2 k, LeO (message_within.f k a0 a1 a2) (message_within.f (k + 1) a0 a1 a2) := by
  intro a0 a1 a2 k
  have ih0 := message_within.mono_l k
  unfold message_within.f
  repeat' first
      | (with_reducible exact ih0 _ _ _ _ _)
      | (with_reducible exact LeO.refl _)
      | (with_reducible exact LeO.none _)
      | (with_reducible refine LeO.ite ?_ ?_)
      | (with_reducible refine LeO.bind ?_ (fun _ => ?_))
      | exact ih0 _ _ _ _ _
      | exact LeO.none _
      | refine LeO.ite ?_ ?_
      | refine LeO.bind ?_ (fun _ => ?_)
set_option maxHeartbeats 8000000 in
set_option maxRecDepth 100000 in
theorem message_within.calls (k : Nat) (a0 : Int) (a1 : Int) (A2 : Option Addr) (c2 : Nat) (l2 : List Int) (r : Bool) (w : World) (hr2 : Kd.C (Kd.int .i64) w A2 l2.length l2) (hc2 : l2.length ≤ c2) (h : message_within.f k a0 a1 l2 = some r) :
    Calls Try.prog 96 #[.int .i64 a0, .int .i64 a1, .slice A2 l2.length c2] w fun e w' => e = .returned (.bool r) ∧ Drawn0 w w' := by
  have HR2 := Aside0.mk hr2
  have HC2 := Aside0.mk hc2
  clear hr2 hc2
  have H : (message_within.l0 k a0 a1 l2 (l2.length : Int) 0) = some r := h
  clear h
  have H' := Aside0.mk H
  clear H
  go_enter Try.func96, Try.ntmps96
  go_wp2
  go_loopg [11] k (fun kq v11 w' => ∃ (x11_1 : Int), v11 = .int .i64 x11_1 ∧ Aside0 (message_within.l0 kq a0 a1 l2 (l2.length : Int) x11_1 = some r) ∧ Aside0 (kq ≤ k) ∧ Drawn0 w w')
  case atStart => exact ⟨(0), (by first | rfl | (simp; done) | (simp [*]; done)), H', ⟨Nat.le_refl _⟩, by repeat (first | exact Drawn0.refl _ | apply Drawn0.step)⟩
  case round =>
    clear H'
    try clear c2
    try clear p2
    obtain ⟨x11_1, rfl, HA, HK1, ⟨m1, rfl⟩⟩ := hrel
    cases gk with
    | zero => exact absurd HA.out (by simp [message_within.l0])
    | succ k1 =>
      have H := HA.out
      clear HA
      simp only [message_within.l0] at H
      by_cases c4 : x11_1 < (l2.length : Int)
      · rw [if_pos c4] at H
        have c4b0 : decide (x11_1 < (l2.length : Int)) = true := decide_eq_true c4
        clear c4
        by_cases c5 : 0 ≤ x11_1
        · rw [if_pos c5] at H
          have c5b0 : decide (0 ≤ x11_1) = true := decide_eq_true c5
          clear c5
          by_cases c6 : x11_1 < (l2.length : Int)
          · rw [if_pos c6] at H
            have c6b0 : decide (x11_1 < (l2.length : Int)) = true := decide_eq_true c6
            clear c6
            by_cases c7 : (rd l2 x11_1) < a0
            · rw [if_pos c7] at H
              have c7b0 : decide ((rd l2 x11_1) < a0) = true := decide_eq_true c7
              clear c7
              obtain rfl := Option.some.inj H
              have p102 : 0 ≤ (x11_1 : Int) := of_decide_eq_true (by first | (with_reducible assumption) | assumption)
              have q102 : x11_1 < (l2.length : Int) := of_decide_eq_true (by first | (with_reducible assumption) | assumption)
              obtain ⟨ad102, e102, hx102_0⟩ := Kd.at_int HR2.out x11_1 p102 q102
              cases e102
              replace p102 := eq_true p102
              replace q102 := eq_true q102
              go_wp2
              go_ret
              exact ⟨by first | rfl | (simp; done) | (simp [*]; done), by repeat (first | exact Drawn0.refl _ | apply Drawn0.step)⟩
            · rw [if_neg c7] at H
              have c7b0 : decide ((rd l2 x11_1) < a0) = false := decide_eq_false c7
              clear c7
              by_cases c8 : (rd l2 x11_1) > a1
              · rw [if_pos c8] at H
                have c8b0 : decide (a1 < (rd l2 x11_1)) = true := decide_eq_true c8
                clear c8
                obtain rfl := Option.some.inj H
                have p102 : 0 ≤ (x11_1 : Int) := of_decide_eq_true (by first | (with_reducible assumption) | assumption)
                have q102 : x11_1 < (l2.length : Int) := of_decide_eq_true (by first | (with_reducible assumption) | assumption)
                obtain ⟨ad102, e102, hx102_0⟩ := Kd.at_int HR2.out x11_1 p102 q102
                cases e102
                replace p102 := eq_true p102
                replace q102 := eq_true q102
                go_wp2
                go_ret
                exact ⟨by first | rfl | (simp; done) | (simp [*]; done), by repeat (first | exact Drawn0.refl _ | apply Drawn0.step)⟩
              · rw [if_neg c8] at H
                have c8b0 : decide (a1 < (rd l2 x11_1)) = false := decide_eq_false c8
                clear c8
                have H' := Aside0.mk H
                clear H
                have p102 : 0 ≤ (x11_1 : Int) := of_decide_eq_true (by first | (with_reducible assumption) | assumption)
                have q102 : x11_1 < (l2.length : Int) := of_decide_eq_true (by first | (with_reducible assumption) | assumption)
                obtain ⟨ad102, e102, hx102_0⟩ := Kd.at_int HR2.out x11_1 p102 q102
                cases e102
                replace p102 := eq_true p102
                replace q102 := eq_true q102
                go_wp2
                go_roundg k1
                case measure => have := HK1.out; omega
                case rel => exact ⟨(wrap64 (x11_1 + 1)), (by first | rfl | (simp; done) | (simp [*]; done)), H', ⟨by have := HK1.out; omega⟩, by repeat (first | exact Drawn0.refl _ | apply Drawn0.step)⟩
          · rw [if_neg c6] at H
            exact absurd H (by simp)
        · rw [if_neg c5] at H
          exact absurd H (by simp)
      · rw [if_neg c4] at H
        have c4b0 : decide (x11_1 < (l2.length : Int)) = false := decide_eq_false c4
        clear c4
        obtain rfl := Option.some.inj H
        go_wp2
        go_ret
        exact ⟨by first | rfl | (simp; done) | (simp [*]; done), by repeat (first | exact Drawn0.refl _ | apply Drawn0.step)⟩

end Go.Proofs.Ytalpemoodollpaa.P
-- Printed by hookprint.py (the session's own program, over the kit's print.py): checked by Lean like any text.
namespace Go.Proofs.Ytalpemoodollpaa.P
open Go.RowKit Go.Proofs.YtalpemoodollpaaW.PrintWords Go.Proofs.YtalpemoodollpaaW.PrintLast Go.Proofs.YtalpemoodollpaaW.PrintMore
attribute [local go_sem] max2_int min2_int max_two min_two max_three min_three max_four min_four   -- for this text's walks alone
set_option linter.unusedVariables false
set_option linter.unusedSimpArgs false

/-! ### message_Right: function 32 -/
def message_Right.f (k : Nat) (a0_0 : Int) (a0_1 : Int) (a0_2 : Int) (a0_3 : Int) (a0_4 : Int) (a0_5 : Int) (a0_6 : Int) (a0_7 : Int) (a0_8 : Int) : Option (Bool) := (message_within.f k 1 9 (([a0_0] : List Int))).bind fun t107 => (if t107 = true then ((message_within.f k 0 255 (([a0_1, a0_8] : List Int))).bind fun t111 => (if t111 = true then ((message_within.f k 0 4611686018427387904 (([a0_2, a0_3] : List Int))).bind fun t115 => (if t115 = true then ((message_within.f k (-1) 4611686018427387904 (([a0_4, a0_5] : List Int))).bind fun t119 => (some t119)) else (some false))) else (some false))) else (some false))
theorem message_Right.mono : ∀ a0 a1 a2 a3 a4 a5 a6 a7 a8 k, LeO (message_Right.f k a0 a1 a2 a3 a4 a5 a6 a7 a8) (message_Right.f (k + 1) a0 a1 a2 a3 a4 a5 a6 a7 a8) := by
  intro a0 a1 a2 a3 a4 a5 a6 a7 a8 k
  unfold message_Right.f
  repeat' first
      | (with_reducible exact message_within.mono _ _ _ _)
      | (with_reducible exact LeO.refl _)
      | (with_reducible exact LeO.none _)
      | (with_reducible refine LeO.ite ?_ ?_)
      | (with_reducible refine LeO.bind ?_ (fun _ => ?_))
      | exact message_within.mono _ _ _ _
      | exact LeO.none _
      | refine LeO.ite ?_ ?_
      | refine LeO.bind ?_ (fun _ => ?_)
set_option maxHeartbeats 8000000 in
set_option maxRecDepth 100000 in
theorem message_Right.calls (k : Nat) (a0_0 : Int) (a0_1 : Int) (a0_2 : Int) (a0_3 : Int) (a0_4 : Int) (a0_5 : Int) (a0_6 : Int) (a0_7 : Int) (a0_8 : Int) (r : Bool) (w : World) (h : message_Right.f k a0_0 a0_1 a0_2 a0_3 a0_4 a0_5 a0_6 a0_7 a0_8 = some r) :
    Calls Try.prog 32 #[.agg #[.int .i64 a0_0, .int .i64 a0_1, .int .i64 a0_2, .int .i64 a0_3, .int .i64 a0_4, .int .i64 a0_5, .int .i64 a0_6, .int .i64 a0_7, .int .i64 a0_8]] w fun e w' => e = .returned (.bool r) ∧ Below w.heap.size w w' := by
  have hu29 := Try.underlying29
  have HB := Aside0.mk (Below.refl w.heap.size w)
  have H : ((message_within.f k 1 9 (([a0_0] : List Int))).bind fun t107 => (if t107 = true then ((message_within.f k 0 255 (([a0_1, a0_8] : List Int))).bind fun t111 => (if t111 = true then ((message_within.f k 0 4611686018427387904 (([a0_2, a0_3] : List Int))).bind fun t115 => (if t115 = true then ((message_within.f k (-1) 4611686018427387904 (([a0_4, a0_5] : List Int))).bind fun t119 => (some t119)) else (some false))) else (some false))) else (some false))) = some r := h
  clear h
  obtain ⟨y104, hy104⟩ : ∃ y_ : List Int, y_ = (([a0_0] : List Int)) := ⟨_, rfl⟩
  replace H : ((message_within.f k 1 9 y104).bind fun t107 => (if t107 = true then ((message_within.f k 0 255 (([a0_1, a0_8] : List Int))).bind fun t111 => (if t111 = true then ((message_within.f k 0 4611686018427387904 (([a0_2, a0_3] : List Int))).bind fun t115 => (if t115 = true then ((message_within.f k (-1) 4611686018427387904 (([a0_4, a0_5] : List Int))).bind fun t119 => (some t119)) else (some false))) else (some false))) else (some false))) = some r := by first | (rw [hy104]; with_reducible exact H) | (have H2_ := (Option.bind_some _ _).symm.trans H; rw [hy104]; with_reducible exact H2_) | (have H2_ := (Option.bind_some _ _).symm.trans H; with_reducible exact H2_) | with_reducible exact H | (rw [hy104]; exact H) | exact H
  have Ny104 := Aside0.mk hy104
  clear hy104
  replace H := Option.bind_eq_some_iff.mp H
  obtain ⟨t107, A20, H⟩ := H
  replace H : (if t107 = true then ((message_within.f k 0 255 (([a0_1, a0_8] : List Int))).bind fun t111 => (if t111 = true then ((message_within.f k 0 4611686018427387904 (([a0_2, a0_3] : List Int))).bind fun t115 => (if t115 = true then ((message_within.f k (-1) 4611686018427387904 (([a0_4, a0_5] : List Int))).bind fun t119 => (some t119)) else (some false))) else (some false))) else (some false)) = some r := H
  have A2 := Aside0.mk A20
  clear A20
  by_cases c3 : t107 = true
  · subst c3
    have H1 : ((message_within.f k 0 255 (([a0_1, a0_8] : List Int))).bind fun t111 => (if t111 = true then ((message_within.f k 0 4611686018427387904 (([a0_2, a0_3] : List Int))).bind fun t115 => (if t115 = true then ((message_within.f k (-1) 4611686018427387904 (([a0_4, a0_5] : List Int))).bind fun t119 => (some t119)) else (some false))) else (some false))) = some r := by rw [if_pos rfl] at H; exact H
    clear H
    have H := H1
    clear H1
    obtain ⟨y108, hy108⟩ : ∃ y_ : List Int, y_ = (([a0_1, a0_8] : List Int)) := ⟨_, rfl⟩
    replace H : ((message_within.f k 0 255 y108).bind fun t111 => (if t111 = true then ((message_within.f k 0 4611686018427387904 (([a0_2, a0_3] : List Int))).bind fun t115 => (if t115 = true then ((message_within.f k (-1) 4611686018427387904 (([a0_4, a0_5] : List Int))).bind fun t119 => (some t119)) else (some false))) else (some false))) = some r := by first | (rw [hy108]; with_reducible exact H) | (have H2_ := (Option.bind_some _ _).symm.trans H; rw [hy108]; with_reducible exact H2_) | (have H2_ := (Option.bind_some _ _).symm.trans H; with_reducible exact H2_) | with_reducible exact H | (rw [hy108]; exact H) | exact H
    have Ny108 := Aside0.mk hy108
    clear hy108
    replace H := Option.bind_eq_some_iff.mp H
    obtain ⟨t111, A40, H⟩ := H
    replace H : (if t111 = true then ((message_within.f k 0 4611686018427387904 (([a0_2, a0_3] : List Int))).bind fun t115 => (if t115 = true then ((message_within.f k (-1) 4611686018427387904 (([a0_4, a0_5] : List Int))).bind fun t119 => (some t119)) else (some false))) else (some false)) = some r := H
    have A4 := Aside0.mk A40
    clear A40
    by_cases c5 : t111 = true
    · subst c5
      have H1 : ((message_within.f k 0 4611686018427387904 (([a0_2, a0_3] : List Int))).bind fun t115 => (if t115 = true then ((message_within.f k (-1) 4611686018427387904 (([a0_4, a0_5] : List Int))).bind fun t119 => (some t119)) else (some false))) = some r := by rw [if_pos rfl] at H; exact H
      clear H
      have H := H1
      clear H1
      obtain ⟨y112, hy112⟩ : ∃ y_ : List Int, y_ = (([a0_2, a0_3] : List Int)) := ⟨_, rfl⟩
      replace H : ((message_within.f k 0 4611686018427387904 y112).bind fun t115 => (if t115 = true then ((message_within.f k (-1) 4611686018427387904 (([a0_4, a0_5] : List Int))).bind fun t119 => (some t119)) else (some false))) = some r := by first | (rw [hy112]; with_reducible exact H) | (have H2_ := (Option.bind_some _ _).symm.trans H; rw [hy112]; with_reducible exact H2_) | (have H2_ := (Option.bind_some _ _).symm.trans H; with_reducible exact H2_) | with_reducible exact H | (rw [hy112]; exact H) | exact H
      have Ny112 := Aside0.mk hy112
      clear hy112
      replace H := Option.bind_eq_some_iff.mp H
      obtain ⟨t115, A60, H⟩ := H
      replace H : (if t115 = true then ((message_within.f k (-1) 4611686018427387904 (([a0_4, a0_5] : List Int))).bind fun t119 => (some t119)) else (some false)) = some r := H
      have A6 := Aside0.mk A60
      clear A60
      by_cases c7 : t115 = true
      · subst c7
        have H1 : ((message_within.f k (-1) 4611686018427387904 (([a0_4, a0_5] : List Int))).bind fun t119 => (some t119)) = some r := by rw [if_pos rfl] at H; exact H
        clear H
        have H := H1
        clear H1
        obtain ⟨y116, hy116⟩ : ∃ y_ : List Int, y_ = (([a0_4, a0_5] : List Int)) := ⟨_, rfl⟩
        replace H : ((message_within.f k (-1) 4611686018427387904 y116).bind fun t119 => (some t119)) = some r := by first | (rw [hy116]; with_reducible exact H) | (have H2_ := (Option.bind_some _ _).symm.trans H; rw [hy116]; with_reducible exact H2_) | (have H2_ := (Option.bind_some _ _).symm.trans H; with_reducible exact H2_) | with_reducible exact H | (rw [hy116]; exact H) | exact H
        have Ny116 := Aside0.mk hy116
        clear hy116
        replace H := Option.bind_eq_some_iff.mp H
        obtain ⟨t119, A80, H⟩ := H
        replace H : (some t119) = some r := H
        have A8 := Aside0.mk A80
        clear A80
        obtain rfl := Option.some.inj H
        go_enter Try.func32, Try.ntmps32
        go_wp2_with (first | ((with_reducible refine gate_dst (N := 1) rfl ?_); (try (refine gate_guard (by rfl) ?_; dsimp only)); refine box_event ?hg (N := 1) ?hd (cs := #[.int .i64 a0_0, .int .i64 a0_1, .int .i64 a0_2, .int .i64 a0_3, .int .i64 a0_4, .int .i64 a0_5, .int .i64 a0_6, .int .i64 a0_7, .int .i64 a0_8]) (t := 29) ?hr ?_; (case hd => rfl); (case hg => rfl); (case hr => first | (go_simp; done) | (go_simp; rfl)); intro gb103 hg w9 hbox hb; have n0_ := Aside0.mk (below_step (by repeat (first | (with_reducible first | exact HB.out | apply below_alloc | apply pw_below_drewN | apply below_drew1) | exact HB.out)) hb); have n1_ := Aside0.mk (hbox); have n2_ := Aside0.mk ((by rw [hg]; exact (below_size (by repeat (first | (with_reducible first | exact HB.out | apply below_alloc | apply pw_below_drewN | apply below_drew1) | exact HB.out))) : w.heap.size ≤ gb103)); have n3_ := Aside0.mk ((by rw [hg]; exact (below_size (by repeat (first | (with_reducible first | exact HB.out | apply below_alloc | apply pw_below_drewN | apply below_drew1) | exact HB.out))) : w.heap.size ≤ gb103)); clear HB; have HB := n0_; have BK103 := n1_; have GW103 := n2_; have GE103 := n3_; clear n0_ n1_ n2_ n3_; clear hb hbox hg; have hcz10_0 : w9.cell? ⟨gb103, 0, none⟩ = some (.int .i64 a0_0) := (blk_cell BK103.out 0).trans rfl; have hcz10_1 : w9.cell? ⟨gb103, 1, none⟩ = some (.int .i64 a0_1) := (blk_cell BK103.out 1).trans rfl; have hcz10_2 : w9.cell? ⟨gb103, 2, none⟩ = some (.int .i64 a0_2) := (blk_cell BK103.out 2).trans rfl; have hcz10_3 : w9.cell? ⟨gb103, 3, none⟩ = some (.int .i64 a0_3) := (blk_cell BK103.out 3).trans rfl; have hcz10_4 : w9.cell? ⟨gb103, 4, none⟩ = some (.int .i64 a0_4) := (blk_cell BK103.out 4).trans rfl; have hcz10_5 : w9.cell? ⟨gb103, 5, none⟩ = some (.int .i64 a0_5) := (blk_cell BK103.out 5).trans rfl; have hcz10_6 : w9.cell? ⟨gb103, 6, none⟩ = some (.int .i64 a0_6) := (blk_cell BK103.out 6).trans rfl; have hcz10_7 : w9.cell? ⟨gb103, 7, none⟩ = some (.int .i64 a0_7) := (blk_cell BK103.out 7).trans rfl; have hcz10_8 : w9.cell? ⟨gb103, 8, none⟩ = some (.int .i64 a0_8) := (blk_cell BK103.out 8).trans rfl; have hfz10_0 := blk_frozen BK103.out 0; have hfz10_1 := blk_frozen BK103.out 1; have hfz10_2 := blk_frozen BK103.out 2; have hfz10_3 := blk_frozen BK103.out 3; have hfz10_4 := blk_frozen BK103.out 4; have hfz10_5 := blk_frozen BK103.out 5; have hfz10_6 := blk_frozen BK103.out 6; have hfz10_7 := blk_frozen BK103.out 7; have hfz10_8 := blk_frozen BK103.out 8) | ((with_reducible refine gate_dst (N := 5) rfl ?_); (try (refine gate_guard (by rfl) ?_; dsimp only)); refine Kd.R_lit (Kd.int .i64) _ 2 ?hg (N := 5) ?hd (xs := ([a0_0] : List Int)) (inner := [.int .i64 a0_0]) (ok := fun _ => True) (okp := fun _ => True) ?hr ?hp (fun _ hk => hk) trivial (Below.refl _ _) (Nat.le_refl _) (by simp) ?_; (case hd => rfl); (case hg => rfl); (case hr => first | (go_simp; done) | (go_simp; rfl)); (case hp => exact (Reps.one (show Kd.M (Kd.int .i64) _ _ _ a0_0 [.int .i64 a0_0] from rfl) (Reps.none _ _))); intro v105 w11 ho12 hb hg_ hnew_; clear hg_ hnew_; (first | rw [← Ny104.out] at ho12 | (simp only [Int.reduceToNat] at ho12; rw [← Ny104.out] at ho12)); have n0_ := Aside0.mk (Kd.R_lower ho12 (below_size (by repeat (first | (with_reducible first | exact HB.out | apply below_alloc | apply pw_below_drewN | apply below_drew1 | refine below_set ?_ GE103.out) | exact HB.out)))); have n1_ := Aside0.mk (blk_below (g := gb103) (o := .cells #[.int .i64 a0_0, .int .i64 a0_1, .int .i64 a0_2, .int .i64 a0_3, .int .i64 a0_4, .int .i64 a0_5, .int .i64 a0_6, .int .i64 a0_7, .int .i64 a0_8] 29 (0, 0)) (by (with_reducible repeat (first | refine blk_drewN ?_ _ | refine blk_drew ?_ | refine blk_alloc ?_ _)); exact BK103.out) hb); have n2_ := Aside0.mk (below_step (by repeat (first | (with_reducible first | exact HB.out | apply below_alloc | apply pw_below_drewN | apply below_drew1 | refine below_set ?_ GE103.out) | exact HB.out)) hb); clear BK103; clear HB; have HO106 := n0_; have BK103 := n1_; have HB := n2_; clear n0_ n1_ n2_; clear hb ho12; obtain ⟨Ao13, co13, eo13⟩ := Kd.R_slice HO106.out; subst eo13) | ((with_reducible refine gate_callee (f := 96) rfl ?_); refine goesL_ (some 6) rfl rfl Try.func96 (by kernel_rfl) rfl #[.int .i64 1, .int .i64 9, .slice Ao13 y104.length co13] rfl (by (try simp only [List.map_toArray, List.map_cons, List.map_nil]); first | done | rfl | (simp only [List.length_drop, List.length_take]; rfl)) ?_; (with_reducible refine (message_within.calls k 1 9 _ _ y104 true _ ?side1 ?side2 A2.out).mono ?_); (case side1 => repeat (first | exact (Kd.R_reads' HO106.out).2.2 | (with_reducible refine Kd.C_alloc ?_ _) | (with_reducible refine Kd.C_drewN ?_ _) | (with_reducible refine Kd.C_drew ?_))); (case side2 => exact (Kd.R_reads' HO106.out).2.1); rintro e w' ⟨rfl, ⟨nd, rfl⟩⟩; refine ⟨_, rfl, ?_⟩; have hcz14_0 : w11.cell? ⟨gb103, 0, none⟩ = some (.int .i64 a0_0) := (blk_cell BK103.out 0).trans rfl; have hcz14_1 : w11.cell? ⟨gb103, 1, none⟩ = some (.int .i64 a0_1) := (blk_cell BK103.out 1).trans rfl; have hcz14_2 : w11.cell? ⟨gb103, 2, none⟩ = some (.int .i64 a0_2) := (blk_cell BK103.out 2).trans rfl; have hcz14_3 : w11.cell? ⟨gb103, 3, none⟩ = some (.int .i64 a0_3) := (blk_cell BK103.out 3).trans rfl; have hcz14_4 : w11.cell? ⟨gb103, 4, none⟩ = some (.int .i64 a0_4) := (blk_cell BK103.out 4).trans rfl; have hcz14_5 : w11.cell? ⟨gb103, 5, none⟩ = some (.int .i64 a0_5) := (blk_cell BK103.out 5).trans rfl; have hcz14_6 : w11.cell? ⟨gb103, 6, none⟩ = some (.int .i64 a0_6) := (blk_cell BK103.out 6).trans rfl; have hcz14_7 : w11.cell? ⟨gb103, 7, none⟩ = some (.int .i64 a0_7) := (blk_cell BK103.out 7).trans rfl; have hcz14_8 : w11.cell? ⟨gb103, 8, none⟩ = some (.int .i64 a0_8) := (blk_cell BK103.out 8).trans rfl; have hfz14_0 := blk_frozen BK103.out 0; have hfz14_1 := blk_frozen BK103.out 1; have hfz14_2 := blk_frozen BK103.out 2; have hfz14_3 := blk_frozen BK103.out 3; have hfz14_4 := blk_frozen BK103.out 4; have hfz14_5 := blk_frozen BK103.out 5; have hfz14_6 := blk_frozen BK103.out 6; have hfz14_7 := blk_frozen BK103.out 7; have hfz14_8 := blk_frozen BK103.out 8) | ((with_reducible refine gate_dst (N := 12) rfl ?_); (try (refine gate_guard (by rfl) ?_; dsimp only)); refine Kd.R_lit (Kd.int .i64) _ 2 ?hg (N := 12) ?hd (xs := ([a0_1, a0_8] : List Int)) (inner := [.int .i64 a0_1, .int .i64 a0_8]) (ok := fun _ => True) (okp := fun _ => True) ?hr ?hp (fun _ hk => hk) trivial (Below.refl _ _) (Nat.le_refl _) (by simp) ?_; (case hd => rfl); (case hg => rfl); (case hr => first | (go_simp; done) | (go_simp; rfl)); (case hp => exact (Reps.one (show Kd.M (Kd.int .i64) _ _ _ a0_1 [.int .i64 a0_1] from rfl) (Reps.one (show Kd.M (Kd.int .i64) _ _ _ a0_8 [.int .i64 a0_8] from rfl) (Reps.none _ _)))); intro v109 w15 ho16 hb hg_ hnew_; clear hg_ hnew_; (first | rw [← Ny108.out] at ho16 | (simp only [Int.reduceToNat] at ho16; rw [← Ny108.out] at ho16)); have n0_ := Aside0.mk (Kd.R_elder' (by (with_reducible repeat (first | apply Kd.R_alloc | apply Kd.R_drewN | apply Kd.R_drew)); exact HO106.out) (Kd.R_base ho16) hb); have n1_ := Aside0.mk (Kd.R_lower (Kd.R_new' ho16 (Kd.R_lt (by (with_reducible repeat (first | apply Kd.R_alloc | apply Kd.R_drewN | apply Kd.R_drew)); exact HO106.out))) (below_size (by repeat (first | (with_reducible first | exact HB.out | apply below_alloc | apply pw_below_drewN | apply below_drew1 | refine below_set ?_ GE103.out) | exact HB.out)))); have n2_ := Aside0.mk (blk_below (g := gb103) (o := .cells #[.int .i64 a0_0, .int .i64 a0_1, .int .i64 a0_2, .int .i64 a0_3, .int .i64 a0_4, .int .i64 a0_5, .int .i64 a0_6, .int .i64 a0_7, .int .i64 a0_8] 29 (0, 0)) (by (with_reducible repeat (first | refine blk_drewN ?_ _ | refine blk_drew ?_ | refine blk_alloc ?_ _)); exact BK103.out) hb); have n3_ := Aside0.mk (below_step (by repeat (first | (with_reducible first | exact HB.out | apply below_alloc | apply pw_below_drewN | apply below_drew1 | refine below_set ?_ GE103.out) | exact HB.out)) hb); clear HO106; clear BK103; clear HB; have HO106 := n0_; have HO110 := n1_; have BK103 := n2_; have HB := n3_; clear n0_ n1_ n2_ n3_; clear hb ho16; obtain ⟨Ao17, co17, eo17⟩ := Kd.R_slice HO110.out; subst eo17) | (go_at_call 96; (with_reducible refine (message_within.calls k 0 255 _ _ y108 true _ ?side1 ?side2 A4.out).mono ?_); (case side1 => repeat (first | exact (Kd.R_reads' HO110.out).2.2 | (with_reducible refine Kd.C_alloc ?_ _) | (with_reducible refine Kd.C_drewN ?_ _) | (with_reducible refine Kd.C_drew ?_))); (case side2 => exact (Kd.R_reads' HO110.out).2.1); rintro e w' ⟨rfl, ⟨nd, rfl⟩⟩; have hcz18_0 : w15.cell? ⟨gb103, 0, none⟩ = some (.int .i64 a0_0) := (blk_cell BK103.out 0).trans rfl; have hcz18_1 : w15.cell? ⟨gb103, 1, none⟩ = some (.int .i64 a0_1) := (blk_cell BK103.out 1).trans rfl; have hcz18_2 : w15.cell? ⟨gb103, 2, none⟩ = some (.int .i64 a0_2) := (blk_cell BK103.out 2).trans rfl; have hcz18_3 : w15.cell? ⟨gb103, 3, none⟩ = some (.int .i64 a0_3) := (blk_cell BK103.out 3).trans rfl; have hcz18_4 : w15.cell? ⟨gb103, 4, none⟩ = some (.int .i64 a0_4) := (blk_cell BK103.out 4).trans rfl; have hcz18_5 : w15.cell? ⟨gb103, 5, none⟩ = some (.int .i64 a0_5) := (blk_cell BK103.out 5).trans rfl; have hcz18_6 : w15.cell? ⟨gb103, 6, none⟩ = some (.int .i64 a0_6) := (blk_cell BK103.out 6).trans rfl; have hcz18_7 : w15.cell? ⟨gb103, 7, none⟩ = some (.int .i64 a0_7) := (blk_cell BK103.out 7).trans rfl; have hcz18_8 : w15.cell? ⟨gb103, 8, none⟩ = some (.int .i64 a0_8) := (blk_cell BK103.out 8).trans rfl; have hfz18_0 := blk_frozen BK103.out 0; have hfz18_1 := blk_frozen BK103.out 1; have hfz18_2 := blk_frozen BK103.out 2; have hfz18_3 := blk_frozen BK103.out 3; have hfz18_4 := blk_frozen BK103.out 4; have hfz18_5 := blk_frozen BK103.out 5; have hfz18_6 := blk_frozen BK103.out 6; have hfz18_7 := blk_frozen BK103.out 7; have hfz18_8 := blk_frozen BK103.out 8) | ((with_reducible refine gate_dst (N := 20) rfl ?_); (try (refine gate_guard (by rfl) ?_; dsimp only)); refine Kd.R_lit (Kd.int .i64) _ 2 ?hg (N := 20) ?hd (xs := ([a0_2, a0_3] : List Int)) (inner := [.int .i64 a0_2, .int .i64 a0_3]) (ok := fun _ => True) (okp := fun _ => True) ?hr ?hp (fun _ hk => hk) trivial (Below.refl _ _) (Nat.le_refl _) (by simp) ?_; (case hd => rfl); (case hg => rfl); (case hr => first | (go_simp; done) | (go_simp; rfl)); (case hp => exact (Reps.one (show Kd.M (Kd.int .i64) _ _ _ a0_2 [.int .i64 a0_2] from rfl) (Reps.one (show Kd.M (Kd.int .i64) _ _ _ a0_3 [.int .i64 a0_3] from rfl) (Reps.none _ _)))); intro v113 w19 ho20 hb hg_ hnew_; clear hg_ hnew_; (first | rw [← Ny112.out] at ho20 | (simp only [Int.reduceToNat] at ho20; rw [← Ny112.out] at ho20)); have n0_ := Aside0.mk (Kd.R_elder' (by (with_reducible repeat (first | apply Kd.R_alloc | apply Kd.R_drewN | apply Kd.R_drew)); exact HO106.out) (Kd.R_base ho20) hb); have n1_ := Aside0.mk (Kd.R_elder' (by (with_reducible repeat (first | apply Kd.R_alloc | apply Kd.R_drewN | apply Kd.R_drew)); exact HO110.out) (Kd.R_base ho20) hb); have n2_ := Aside0.mk (Kd.R_lower (Kd.R_new' (Kd.R_new' ho20 (Kd.R_lt (by (with_reducible repeat (first | apply Kd.R_alloc | apply Kd.R_drewN | apply Kd.R_drew)); exact HO106.out))) (Kd.R_lt (by (with_reducible repeat (first | apply Kd.R_alloc | apply Kd.R_drewN | apply Kd.R_drew)); exact HO110.out))) (below_size (by repeat (first | (with_reducible first | exact HB.out | apply below_alloc | apply pw_below_drewN | apply below_drew1 | refine below_set ?_ GE103.out) | exact HB.out)))); have n3_ := Aside0.mk (blk_below (g := gb103) (o := .cells #[.int .i64 a0_0, .int .i64 a0_1, .int .i64 a0_2, .int .i64 a0_3, .int .i64 a0_4, .int .i64 a0_5, .int .i64 a0_6, .int .i64 a0_7, .int .i64 a0_8] 29 (0, 0)) (by (with_reducible repeat (first | refine blk_drewN ?_ _ | refine blk_drew ?_ | refine blk_alloc ?_ _)); exact BK103.out) hb); have n4_ := Aside0.mk (below_step (by repeat (first | (with_reducible first | exact HB.out | apply below_alloc | apply pw_below_drewN | apply below_drew1 | refine below_set ?_ GE103.out) | exact HB.out)) hb); clear HO106; clear HO110; clear BK103; clear HB; have HO106 := n0_; have HO110 := n1_; have HO114 := n2_; have BK103 := n3_; have HB := n4_; clear n0_ n1_ n2_ n3_ n4_; clear hb ho20; obtain ⟨Ao21, co21, eo21⟩ := Kd.R_slice HO114.out; subst eo21) | (go_at_call 96; (with_reducible refine (message_within.calls k 0 4611686018427387904 _ _ y112 true _ ?side1 ?side2 A6.out).mono ?_); (case side1 => repeat (first | exact (Kd.R_reads' HO114.out).2.2 | (with_reducible refine Kd.C_alloc ?_ _) | (with_reducible refine Kd.C_drewN ?_ _) | (with_reducible refine Kd.C_drew ?_))); (case side2 => exact (Kd.R_reads' HO114.out).2.1); rintro e w' ⟨rfl, ⟨nd, rfl⟩⟩; have hcz22_0 : w19.cell? ⟨gb103, 0, none⟩ = some (.int .i64 a0_0) := (blk_cell BK103.out 0).trans rfl; have hcz22_1 : w19.cell? ⟨gb103, 1, none⟩ = some (.int .i64 a0_1) := (blk_cell BK103.out 1).trans rfl; have hcz22_2 : w19.cell? ⟨gb103, 2, none⟩ = some (.int .i64 a0_2) := (blk_cell BK103.out 2).trans rfl; have hcz22_3 : w19.cell? ⟨gb103, 3, none⟩ = some (.int .i64 a0_3) := (blk_cell BK103.out 3).trans rfl; have hcz22_4 : w19.cell? ⟨gb103, 4, none⟩ = some (.int .i64 a0_4) := (blk_cell BK103.out 4).trans rfl; have hcz22_5 : w19.cell? ⟨gb103, 5, none⟩ = some (.int .i64 a0_5) := (blk_cell BK103.out 5).trans rfl; have hcz22_6 : w19.cell? ⟨gb103, 6, none⟩ = some (.int .i64 a0_6) := (blk_cell BK103.out 6).trans rfl; have hcz22_7 : w19.cell? ⟨gb103, 7, none⟩ = some (.int .i64 a0_7) := (blk_cell BK103.out 7).trans rfl; have hcz22_8 : w19.cell? ⟨gb103, 8, none⟩ = some (.int .i64 a0_8) := (blk_cell BK103.out 8).trans rfl; have hfz22_0 := blk_frozen BK103.out 0; have hfz22_1 := blk_frozen BK103.out 1; have hfz22_2 := blk_frozen BK103.out 2; have hfz22_3 := blk_frozen BK103.out 3; have hfz22_4 := blk_frozen BK103.out 4; have hfz22_5 := blk_frozen BK103.out 5; have hfz22_6 := blk_frozen BK103.out 6; have hfz22_7 := blk_frozen BK103.out 7; have hfz22_8 := blk_frozen BK103.out 8) | ((with_reducible refine gate_dst (N := 28) rfl ?_); (try (refine gate_guard (by rfl) ?_; dsimp only)); refine Kd.R_lit (Kd.int .i64) _ 2 ?hg (N := 28) ?hd (xs := ([a0_4, a0_5] : List Int)) (inner := [.int .i64 a0_4, .int .i64 a0_5]) (ok := fun _ => True) (okp := fun _ => True) ?hr ?hp (fun _ hk => hk) trivial (Below.refl _ _) (Nat.le_refl _) (by simp) ?_; (case hd => rfl); (case hg => rfl); (case hr => first | (go_simp; done) | (go_simp; rfl)); (case hp => exact (Reps.one (show Kd.M (Kd.int .i64) _ _ _ a0_4 [.int .i64 a0_4] from rfl) (Reps.one (show Kd.M (Kd.int .i64) _ _ _ a0_5 [.int .i64 a0_5] from rfl) (Reps.none _ _)))); intro v117 w23 ho24 hb hg_ hnew_; clear hg_ hnew_; (first | rw [← Ny116.out] at ho24 | (simp only [Int.reduceToNat] at ho24; rw [← Ny116.out] at ho24)); have n0_ := Aside0.mk (Kd.R_elder' (by (with_reducible repeat (first | apply Kd.R_alloc | apply Kd.R_drewN | apply Kd.R_drew)); exact HO106.out) (Kd.R_base ho24) hb); have n1_ := Aside0.mk (Kd.R_elder' (by (with_reducible repeat (first | apply Kd.R_alloc | apply Kd.R_drewN | apply Kd.R_drew)); exact HO110.out) (Kd.R_base ho24) hb); have n2_ := Aside0.mk (Kd.R_elder' (by (with_reducible repeat (first | apply Kd.R_alloc | apply Kd.R_drewN | apply Kd.R_drew)); exact HO114.out) (Kd.R_base ho24) hb); have n3_ := Aside0.mk (Kd.R_lower (Kd.R_new' (Kd.R_new' (Kd.R_new' ho24 (Kd.R_lt (by (with_reducible repeat (first | apply Kd.R_alloc | apply Kd.R_drewN | apply Kd.R_drew)); exact HO106.out))) (Kd.R_lt (by (with_reducible repeat (first | apply Kd.R_alloc | apply Kd.R_drewN | apply Kd.R_drew)); exact HO110.out))) (Kd.R_lt (by (with_reducible repeat (first | apply Kd.R_alloc | apply Kd.R_drewN | apply Kd.R_drew)); exact HO114.out))) (below_size (by repeat (first | (with_reducible first | exact HB.out | apply below_alloc | apply pw_below_drewN | apply below_drew1 | refine below_set ?_ GE103.out) | exact HB.out)))); have n4_ := Aside0.mk (blk_below (g := gb103) (o := .cells #[.int .i64 a0_0, .int .i64 a0_1, .int .i64 a0_2, .int .i64 a0_3, .int .i64 a0_4, .int .i64 a0_5, .int .i64 a0_6, .int .i64 a0_7, .int .i64 a0_8] 29 (0, 0)) (by (with_reducible repeat (first | refine blk_drewN ?_ _ | refine blk_drew ?_ | refine blk_alloc ?_ _)); exact BK103.out) hb); have n5_ := Aside0.mk (below_step (by repeat (first | (with_reducible first | exact HB.out | apply below_alloc | apply pw_below_drewN | apply below_drew1 | refine below_set ?_ GE103.out) | exact HB.out)) hb); clear HO106; clear HO110; clear HO114; clear BK103; clear HB; have HO106 := n0_; have HO110 := n1_; have HO114 := n2_; have HO118 := n3_; have BK103 := n4_; have HB := n5_; clear n0_ n1_ n2_ n3_ n4_ n5_; clear hb ho24; obtain ⟨Ao25, co25, eo25⟩ := Kd.R_slice HO118.out; subst eo25) | (go_at_call 96; (with_reducible refine (message_within.calls k (-1) 4611686018427387904 _ _ y116 t119 _ ?side1 ?side2 A8.out).mono ?_); (case side1 => repeat (first | exact (Kd.R_reads' HO118.out).2.2 | (with_reducible refine Kd.C_alloc ?_ _) | (with_reducible refine Kd.C_drewN ?_ _) | (with_reducible refine Kd.C_drew ?_))); (case side2 => exact (Kd.R_reads' HO118.out).2.1); rintro e w' ⟨rfl, ⟨nd, rfl⟩⟩))
        go_ret
        exact ⟨by first | rfl | (simp [errW_none, errW_some] <;> rfl) | (simp [*, errW_none, errW_some] <;> rfl), by repeat (first | (with_reducible first | exact HB.out | apply below_alloc | apply pw_below_drewN | apply below_drew1 | refine below_set ?_ GE103.out) | exact HB.out)⟩
      · replace c7 := Bool.eq_false_iff.mpr c7
        subst c7
        have H1 : (some false) = some r := by rw [if_neg (show ¬ (false = true) by decide)] at H; exact H
        clear H
        have H := H1
        clear H1
        obtain rfl := Option.some.inj H
        go_enter Try.func32, Try.ntmps32
        go_wp2_with (first | ((with_reducible refine gate_dst (N := 1) rfl ?_); (try (refine gate_guard (by rfl) ?_; dsimp only)); refine box_event ?hg (N := 1) ?hd (cs := #[.int .i64 a0_0, .int .i64 a0_1, .int .i64 a0_2, .int .i64 a0_3, .int .i64 a0_4, .int .i64 a0_5, .int .i64 a0_6, .int .i64 a0_7, .int .i64 a0_8]) (t := 29) ?hr ?_; (case hd => rfl); (case hg => rfl); (case hr => first | (go_simp; done) | (go_simp; rfl)); intro gb103 hg w26 hbox hb; have n0_ := Aside0.mk (below_step (by repeat (first | (with_reducible first | exact HB.out | apply below_alloc | apply pw_below_drewN | apply below_drew1) | exact HB.out)) hb); have n1_ := Aside0.mk (hbox); have n2_ := Aside0.mk ((by rw [hg]; exact (below_size (by repeat (first | (with_reducible first | exact HB.out | apply below_alloc | apply pw_below_drewN | apply below_drew1) | exact HB.out))) : w.heap.size ≤ gb103)); have n3_ := Aside0.mk ((by rw [hg]; exact (below_size (by repeat (first | (with_reducible first | exact HB.out | apply below_alloc | apply pw_below_drewN | apply below_drew1) | exact HB.out))) : w.heap.size ≤ gb103)); clear HB; have HB := n0_; have BK103 := n1_; have GW103 := n2_; have GE103 := n3_; clear n0_ n1_ n2_ n3_; clear hb hbox hg; have hcz27_0 : w26.cell? ⟨gb103, 0, none⟩ = some (.int .i64 a0_0) := (blk_cell BK103.out 0).trans rfl; have hcz27_1 : w26.cell? ⟨gb103, 1, none⟩ = some (.int .i64 a0_1) := (blk_cell BK103.out 1).trans rfl; have hcz27_2 : w26.cell? ⟨gb103, 2, none⟩ = some (.int .i64 a0_2) := (blk_cell BK103.out 2).trans rfl; have hcz27_3 : w26.cell? ⟨gb103, 3, none⟩ = some (.int .i64 a0_3) := (blk_cell BK103.out 3).trans rfl; have hcz27_4 : w26.cell? ⟨gb103, 4, none⟩ = some (.int .i64 a0_4) := (blk_cell BK103.out 4).trans rfl; have hcz27_5 : w26.cell? ⟨gb103, 5, none⟩ = some (.int .i64 a0_5) := (blk_cell BK103.out 5).trans rfl; have hcz27_6 : w26.cell? ⟨gb103, 6, none⟩ = some (.int .i64 a0_6) := (blk_cell BK103.out 6).trans rfl; have hcz27_7 : w26.cell? ⟨gb103, 7, none⟩ = some (.int .i64 a0_7) := (blk_cell BK103.out 7).trans rfl; have hcz27_8 : w26.cell? ⟨gb103, 8, none⟩ = some (.int .i64 a0_8) := (blk_cell BK103.out 8).trans rfl; have hfz27_0 := blk_frozen BK103.out 0; have hfz27_1 := blk_frozen BK103.out 1; have hfz27_2 := blk_frozen BK103.out 2; have hfz27_3 := blk_frozen BK103.out 3; have hfz27_4 := blk_frozen BK103.out 4; have hfz27_5 := blk_frozen BK103.out 5; have hfz27_6 := blk_frozen BK103.out 6; have hfz27_7 := blk_frozen BK103.out 7; have hfz27_8 := blk_frozen BK103.out 8) | ((with_reducible refine gate_dst (N := 5) rfl ?_); (try (refine gate_guard (by rfl) ?_; dsimp only)); refine Kd.R_lit (Kd.int .i64) _ 2 ?hg (N := 5) ?hd (xs := ([a0_0] : List Int)) (inner := [.int .i64 a0_0]) (ok := fun _ => True) (okp := fun _ => True) ?hr ?hp (fun _ hk => hk) trivial (Below.refl _ _) (Nat.le_refl _) (by simp) ?_; (case hd => rfl); (case hg => rfl); (case hr => first | (go_simp; done) | (go_simp; rfl)); (case hp => exact (Reps.one (show Kd.M (Kd.int .i64) _ _ _ a0_0 [.int .i64 a0_0] from rfl) (Reps.none _ _))); intro v105 w28 ho29 hb hg_ hnew_; clear hg_ hnew_; (first | rw [← Ny104.out] at ho29 | (simp only [Int.reduceToNat] at ho29; rw [← Ny104.out] at ho29)); have n0_ := Aside0.mk (Kd.R_lower ho29 (below_size (by repeat (first | (with_reducible first | exact HB.out | apply below_alloc | apply pw_below_drewN | apply below_drew1 | refine below_set ?_ GE103.out) | exact HB.out)))); have n1_ := Aside0.mk (blk_below (g := gb103) (o := .cells #[.int .i64 a0_0, .int .i64 a0_1, .int .i64 a0_2, .int .i64 a0_3, .int .i64 a0_4, .int .i64 a0_5, .int .i64 a0_6, .int .i64 a0_7, .int .i64 a0_8] 29 (0, 0)) (by (with_reducible repeat (first | refine blk_drewN ?_ _ | refine blk_drew ?_ | refine blk_alloc ?_ _)); exact BK103.out) hb); have n2_ := Aside0.mk (below_step (by repeat (first | (with_reducible first | exact HB.out | apply below_alloc | apply pw_below_drewN | apply below_drew1 | refine below_set ?_ GE103.out) | exact HB.out)) hb); clear BK103; clear HB; have HO106 := n0_; have BK103 := n1_; have HB := n2_; clear n0_ n1_ n2_; clear hb ho29; obtain ⟨Ao30, co30, eo30⟩ := Kd.R_slice HO106.out; subst eo30) | ((with_reducible refine gate_callee (f := 96) rfl ?_); refine goesL_ (some 6) rfl rfl Try.func96 (by kernel_rfl) rfl #[.int .i64 1, .int .i64 9, .slice Ao30 y104.length co30] rfl (by (try simp only [List.map_toArray, List.map_cons, List.map_nil]); first | done | rfl | (simp only [List.length_drop, List.length_take]; rfl)) ?_; (with_reducible refine (message_within.calls k 1 9 _ _ y104 true _ ?side1 ?side2 A2.out).mono ?_); (case side1 => repeat (first | exact (Kd.R_reads' HO106.out).2.2 | (with_reducible refine Kd.C_alloc ?_ _) | (with_reducible refine Kd.C_drewN ?_ _) | (with_reducible refine Kd.C_drew ?_))); (case side2 => exact (Kd.R_reads' HO106.out).2.1); rintro e w' ⟨rfl, ⟨nd, rfl⟩⟩; refine ⟨_, rfl, ?_⟩; have hcz31_0 : w28.cell? ⟨gb103, 0, none⟩ = some (.int .i64 a0_0) := (blk_cell BK103.out 0).trans rfl; have hcz31_1 : w28.cell? ⟨gb103, 1, none⟩ = some (.int .i64 a0_1) := (blk_cell BK103.out 1).trans rfl; have hcz31_2 : w28.cell? ⟨gb103, 2, none⟩ = some (.int .i64 a0_2) := (blk_cell BK103.out 2).trans rfl; have hcz31_3 : w28.cell? ⟨gb103, 3, none⟩ = some (.int .i64 a0_3) := (blk_cell BK103.out 3).trans rfl; have hcz31_4 : w28.cell? ⟨gb103, 4, none⟩ = some (.int .i64 a0_4) := (blk_cell BK103.out 4).trans rfl; have hcz31_5 : w28.cell? ⟨gb103, 5, none⟩ = some (.int .i64 a0_5) := (blk_cell BK103.out 5).trans rfl; have hcz31_6 : w28.cell? ⟨gb103, 6, none⟩ = some (.int .i64 a0_6) := (blk_cell BK103.out 6).trans rfl; have hcz31_7 : w28.cell? ⟨gb103, 7, none⟩ = some (.int .i64 a0_7) := (blk_cell BK103.out 7).trans rfl; have hcz31_8 : w28.cell? ⟨gb103, 8, none⟩ = some (.int .i64 a0_8) := (blk_cell BK103.out 8).trans rfl; have hfz31_0 := blk_frozen BK103.out 0; have hfz31_1 := blk_frozen BK103.out 1; have hfz31_2 := blk_frozen BK103.out 2; have hfz31_3 := blk_frozen BK103.out 3; have hfz31_4 := blk_frozen BK103.out 4; have hfz31_5 := blk_frozen BK103.out 5; have hfz31_6 := blk_frozen BK103.out 6; have hfz31_7 := blk_frozen BK103.out 7; have hfz31_8 := blk_frozen BK103.out 8) | ((with_reducible refine gate_dst (N := 12) rfl ?_); (try (refine gate_guard (by rfl) ?_; dsimp only)); refine Kd.R_lit (Kd.int .i64) _ 2 ?hg (N := 12) ?hd (xs := ([a0_1, a0_8] : List Int)) (inner := [.int .i64 a0_1, .int .i64 a0_8]) (ok := fun _ => True) (okp := fun _ => True) ?hr ?hp (fun _ hk => hk) trivial (Below.refl _ _) (Nat.le_refl _) (by simp) ?_; (case hd => rfl); (case hg => rfl); (case hr => first | (go_simp; done) | (go_simp; rfl)); (case hp => exact (Reps.one (show Kd.M (Kd.int .i64) _ _ _ a0_1 [.int .i64 a0_1] from rfl) (Reps.one (show Kd.M (Kd.int .i64) _ _ _ a0_8 [.int .i64 a0_8] from rfl) (Reps.none _ _)))); intro v109 w32 ho33 hb hg_ hnew_; clear hg_ hnew_; (first | rw [← Ny108.out] at ho33 | (simp only [Int.reduceToNat] at ho33; rw [← Ny108.out] at ho33)); have n0_ := Aside0.mk (Kd.R_elder' (by (with_reducible repeat (first | apply Kd.R_alloc | apply Kd.R_drewN | apply Kd.R_drew)); exact HO106.out) (Kd.R_base ho33) hb); have n1_ := Aside0.mk (Kd.R_lower (Kd.R_new' ho33 (Kd.R_lt (by (with_reducible repeat (first | apply Kd.R_alloc | apply Kd.R_drewN | apply Kd.R_drew)); exact HO106.out))) (below_size (by repeat (first | (with_reducible first | exact HB.out | apply below_alloc | apply pw_below_drewN | apply below_drew1 | refine below_set ?_ GE103.out) | exact HB.out)))); have n2_ := Aside0.mk (blk_below (g := gb103) (o := .cells #[.int .i64 a0_0, .int .i64 a0_1, .int .i64 a0_2, .int .i64 a0_3, .int .i64 a0_4, .int .i64 a0_5, .int .i64 a0_6, .int .i64 a0_7, .int .i64 a0_8] 29 (0, 0)) (by (with_reducible repeat (first | refine blk_drewN ?_ _ | refine blk_drew ?_ | refine blk_alloc ?_ _)); exact BK103.out) hb); have n3_ := Aside0.mk (below_step (by repeat (first | (with_reducible first | exact HB.out | apply below_alloc | apply pw_below_drewN | apply below_drew1 | refine below_set ?_ GE103.out) | exact HB.out)) hb); clear HO106; clear BK103; clear HB; have HO106 := n0_; have HO110 := n1_; have BK103 := n2_; have HB := n3_; clear n0_ n1_ n2_ n3_; clear hb ho33; obtain ⟨Ao34, co34, eo34⟩ := Kd.R_slice HO110.out; subst eo34) | (go_at_call 96; (with_reducible refine (message_within.calls k 0 255 _ _ y108 true _ ?side1 ?side2 A4.out).mono ?_); (case side1 => repeat (first | exact (Kd.R_reads' HO110.out).2.2 | (with_reducible refine Kd.C_alloc ?_ _) | (with_reducible refine Kd.C_drewN ?_ _) | (with_reducible refine Kd.C_drew ?_))); (case side2 => exact (Kd.R_reads' HO110.out).2.1); rintro e w' ⟨rfl, ⟨nd, rfl⟩⟩; have hcz35_0 : w32.cell? ⟨gb103, 0, none⟩ = some (.int .i64 a0_0) := (blk_cell BK103.out 0).trans rfl; have hcz35_1 : w32.cell? ⟨gb103, 1, none⟩ = some (.int .i64 a0_1) := (blk_cell BK103.out 1).trans rfl; have hcz35_2 : w32.cell? ⟨gb103, 2, none⟩ = some (.int .i64 a0_2) := (blk_cell BK103.out 2).trans rfl; have hcz35_3 : w32.cell? ⟨gb103, 3, none⟩ = some (.int .i64 a0_3) := (blk_cell BK103.out 3).trans rfl; have hcz35_4 : w32.cell? ⟨gb103, 4, none⟩ = some (.int .i64 a0_4) := (blk_cell BK103.out 4).trans rfl; have hcz35_5 : w32.cell? ⟨gb103, 5, none⟩ = some (.int .i64 a0_5) := (blk_cell BK103.out 5).trans rfl; have hcz35_6 : w32.cell? ⟨gb103, 6, none⟩ = some (.int .i64 a0_6) := (blk_cell BK103.out 6).trans rfl; have hcz35_7 : w32.cell? ⟨gb103, 7, none⟩ = some (.int .i64 a0_7) := (blk_cell BK103.out 7).trans rfl; have hcz35_8 : w32.cell? ⟨gb103, 8, none⟩ = some (.int .i64 a0_8) := (blk_cell BK103.out 8).trans rfl; have hfz35_0 := blk_frozen BK103.out 0; have hfz35_1 := blk_frozen BK103.out 1; have hfz35_2 := blk_frozen BK103.out 2; have hfz35_3 := blk_frozen BK103.out 3; have hfz35_4 := blk_frozen BK103.out 4; have hfz35_5 := blk_frozen BK103.out 5; have hfz35_6 := blk_frozen BK103.out 6; have hfz35_7 := blk_frozen BK103.out 7; have hfz35_8 := blk_frozen BK103.out 8) | ((with_reducible refine gate_dst (N := 20) rfl ?_); (try (refine gate_guard (by rfl) ?_; dsimp only)); refine Kd.R_lit (Kd.int .i64) _ 2 ?hg (N := 20) ?hd (xs := ([a0_2, a0_3] : List Int)) (inner := [.int .i64 a0_2, .int .i64 a0_3]) (ok := fun _ => True) (okp := fun _ => True) ?hr ?hp (fun _ hk => hk) trivial (Below.refl _ _) (Nat.le_refl _) (by simp) ?_; (case hd => rfl); (case hg => rfl); (case hr => first | (go_simp; done) | (go_simp; rfl)); (case hp => exact (Reps.one (show Kd.M (Kd.int .i64) _ _ _ a0_2 [.int .i64 a0_2] from rfl) (Reps.one (show Kd.M (Kd.int .i64) _ _ _ a0_3 [.int .i64 a0_3] from rfl) (Reps.none _ _)))); intro v113 w36 ho37 hb hg_ hnew_; clear hg_ hnew_; (first | rw [← Ny112.out] at ho37 | (simp only [Int.reduceToNat] at ho37; rw [← Ny112.out] at ho37)); have n0_ := Aside0.mk (Kd.R_elder' (by (with_reducible repeat (first | apply Kd.R_alloc | apply Kd.R_drewN | apply Kd.R_drew)); exact HO106.out) (Kd.R_base ho37) hb); have n1_ := Aside0.mk (Kd.R_elder' (by (with_reducible repeat (first | apply Kd.R_alloc | apply Kd.R_drewN | apply Kd.R_drew)); exact HO110.out) (Kd.R_base ho37) hb); have n2_ := Aside0.mk (Kd.R_lower (Kd.R_new' (Kd.R_new' ho37 (Kd.R_lt (by (with_reducible repeat (first | apply Kd.R_alloc | apply Kd.R_drewN | apply Kd.R_drew)); exact HO106.out))) (Kd.R_lt (by (with_reducible repeat (first | apply Kd.R_alloc | apply Kd.R_drewN | apply Kd.R_drew)); exact HO110.out))) (below_size (by repeat (first | (with_reducible first | exact HB.out | apply below_alloc | apply pw_below_drewN | apply below_drew1 | refine below_set ?_ GE103.out) | exact HB.out)))); have n3_ := Aside0.mk (blk_below (g := gb103) (o := .cells #[.int .i64 a0_0, .int .i64 a0_1, .int .i64 a0_2, .int .i64 a0_3, .int .i64 a0_4, .int .i64 a0_5, .int .i64 a0_6, .int .i64 a0_7, .int .i64 a0_8] 29 (0, 0)) (by (with_reducible repeat (first | refine blk_drewN ?_ _ | refine blk_drew ?_ | refine blk_alloc ?_ _)); exact BK103.out) hb); have n4_ := Aside0.mk (below_step (by repeat (first | (with_reducible first | exact HB.out | apply below_alloc | apply pw_below_drewN | apply below_drew1 | refine below_set ?_ GE103.out) | exact HB.out)) hb); clear HO106; clear HO110; clear BK103; clear HB; have HO106 := n0_; have HO110 := n1_; have HO114 := n2_; have BK103 := n3_; have HB := n4_; clear n0_ n1_ n2_ n3_ n4_; clear hb ho37; obtain ⟨Ao38, co38, eo38⟩ := Kd.R_slice HO114.out; subst eo38) | (go_at_call 96; (with_reducible refine (message_within.calls k 0 4611686018427387904 _ _ y112 false _ ?side1 ?side2 A6.out).mono ?_); (case side1 => repeat (first | exact (Kd.R_reads' HO114.out).2.2 | (with_reducible refine Kd.C_alloc ?_ _) | (with_reducible refine Kd.C_drewN ?_ _) | (with_reducible refine Kd.C_drew ?_))); (case side2 => exact (Kd.R_reads' HO114.out).2.1); rintro e w' ⟨rfl, ⟨nd, rfl⟩⟩))
        go_ret
        exact ⟨by first | rfl | (simp [errW_none, errW_some] <;> rfl) | (simp [*, errW_none, errW_some] <;> rfl), by repeat (first | (with_reducible first | exact HB.out | apply below_alloc | apply pw_below_drewN | apply below_drew1 | refine below_set ?_ GE103.out) | exact HB.out)⟩
    · replace c5 := Bool.eq_false_iff.mpr c5
      subst c5
      have H1 : (some false) = some r := by rw [if_neg (show ¬ (false = true) by decide)] at H; exact H
      clear H
      have H := H1
      clear H1
      obtain rfl := Option.some.inj H
      go_enter Try.func32, Try.ntmps32
      go_wp2_with (first | ((with_reducible refine gate_dst (N := 1) rfl ?_); (try (refine gate_guard (by rfl) ?_; dsimp only)); refine box_event ?hg (N := 1) ?hd (cs := #[.int .i64 a0_0, .int .i64 a0_1, .int .i64 a0_2, .int .i64 a0_3, .int .i64 a0_4, .int .i64 a0_5, .int .i64 a0_6, .int .i64 a0_7, .int .i64 a0_8]) (t := 29) ?hr ?_; (case hd => rfl); (case hg => rfl); (case hr => first | (go_simp; done) | (go_simp; rfl)); intro gb103 hg w39 hbox hb; have n0_ := Aside0.mk (below_step (by repeat (first | (with_reducible first | exact HB.out | apply below_alloc | apply pw_below_drewN | apply below_drew1) | exact HB.out)) hb); have n1_ := Aside0.mk (hbox); have n2_ := Aside0.mk ((by rw [hg]; exact (below_size (by repeat (first | (with_reducible first | exact HB.out | apply below_alloc | apply pw_below_drewN | apply below_drew1) | exact HB.out))) : w.heap.size ≤ gb103)); have n3_ := Aside0.mk ((by rw [hg]; exact (below_size (by repeat (first | (with_reducible first | exact HB.out | apply below_alloc | apply pw_below_drewN | apply below_drew1) | exact HB.out))) : w.heap.size ≤ gb103)); clear HB; have HB := n0_; have BK103 := n1_; have GW103 := n2_; have GE103 := n3_; clear n0_ n1_ n2_ n3_; clear hb hbox hg; have hcz40_0 : w39.cell? ⟨gb103, 0, none⟩ = some (.int .i64 a0_0) := (blk_cell BK103.out 0).trans rfl; have hcz40_1 : w39.cell? ⟨gb103, 1, none⟩ = some (.int .i64 a0_1) := (blk_cell BK103.out 1).trans rfl; have hcz40_2 : w39.cell? ⟨gb103, 2, none⟩ = some (.int .i64 a0_2) := (blk_cell BK103.out 2).trans rfl; have hcz40_3 : w39.cell? ⟨gb103, 3, none⟩ = some (.int .i64 a0_3) := (blk_cell BK103.out 3).trans rfl; have hcz40_4 : w39.cell? ⟨gb103, 4, none⟩ = some (.int .i64 a0_4) := (blk_cell BK103.out 4).trans rfl; have hcz40_5 : w39.cell? ⟨gb103, 5, none⟩ = some (.int .i64 a0_5) := (blk_cell BK103.out 5).trans rfl; have hcz40_6 : w39.cell? ⟨gb103, 6, none⟩ = some (.int .i64 a0_6) := (blk_cell BK103.out 6).trans rfl; have hcz40_7 : w39.cell? ⟨gb103, 7, none⟩ = some (.int .i64 a0_7) := (blk_cell BK103.out 7).trans rfl; have hcz40_8 : w39.cell? ⟨gb103, 8, none⟩ = some (.int .i64 a0_8) := (blk_cell BK103.out 8).trans rfl; have hfz40_0 := blk_frozen BK103.out 0; have hfz40_1 := blk_frozen BK103.out 1; have hfz40_2 := blk_frozen BK103.out 2; have hfz40_3 := blk_frozen BK103.out 3; have hfz40_4 := blk_frozen BK103.out 4; have hfz40_5 := blk_frozen BK103.out 5; have hfz40_6 := blk_frozen BK103.out 6; have hfz40_7 := blk_frozen BK103.out 7; have hfz40_8 := blk_frozen BK103.out 8) | ((with_reducible refine gate_dst (N := 5) rfl ?_); (try (refine gate_guard (by rfl) ?_; dsimp only)); refine Kd.R_lit (Kd.int .i64) _ 2 ?hg (N := 5) ?hd (xs := ([a0_0] : List Int)) (inner := [.int .i64 a0_0]) (ok := fun _ => True) (okp := fun _ => True) ?hr ?hp (fun _ hk => hk) trivial (Below.refl _ _) (Nat.le_refl _) (by simp) ?_; (case hd => rfl); (case hg => rfl); (case hr => first | (go_simp; done) | (go_simp; rfl)); (case hp => exact (Reps.one (show Kd.M (Kd.int .i64) _ _ _ a0_0 [.int .i64 a0_0] from rfl) (Reps.none _ _))); intro v105 w41 ho42 hb hg_ hnew_; clear hg_ hnew_; (first | rw [← Ny104.out] at ho42 | (simp only [Int.reduceToNat] at ho42; rw [← Ny104.out] at ho42)); have n0_ := Aside0.mk (Kd.R_lower ho42 (below_size (by repeat (first | (with_reducible first | exact HB.out | apply below_alloc | apply pw_below_drewN | apply below_drew1 | refine below_set ?_ GE103.out) | exact HB.out)))); have n1_ := Aside0.mk (blk_below (g := gb103) (o := .cells #[.int .i64 a0_0, .int .i64 a0_1, .int .i64 a0_2, .int .i64 a0_3, .int .i64 a0_4, .int .i64 a0_5, .int .i64 a0_6, .int .i64 a0_7, .int .i64 a0_8] 29 (0, 0)) (by (with_reducible repeat (first | refine blk_drewN ?_ _ | refine blk_drew ?_ | refine blk_alloc ?_ _)); exact BK103.out) hb); have n2_ := Aside0.mk (below_step (by repeat (first | (with_reducible first | exact HB.out | apply below_alloc | apply pw_below_drewN | apply below_drew1 | refine below_set ?_ GE103.out) | exact HB.out)) hb); clear BK103; clear HB; have HO106 := n0_; have BK103 := n1_; have HB := n2_; clear n0_ n1_ n2_; clear hb ho42; obtain ⟨Ao43, co43, eo43⟩ := Kd.R_slice HO106.out; subst eo43) | ((with_reducible refine gate_callee (f := 96) rfl ?_); refine goesL_ (some 6) rfl rfl Try.func96 (by kernel_rfl) rfl #[.int .i64 1, .int .i64 9, .slice Ao43 y104.length co43] rfl (by (try simp only [List.map_toArray, List.map_cons, List.map_nil]); first | done | rfl | (simp only [List.length_drop, List.length_take]; rfl)) ?_; (with_reducible refine (message_within.calls k 1 9 _ _ y104 true _ ?side1 ?side2 A2.out).mono ?_); (case side1 => repeat (first | exact (Kd.R_reads' HO106.out).2.2 | (with_reducible refine Kd.C_alloc ?_ _) | (with_reducible refine Kd.C_drewN ?_ _) | (with_reducible refine Kd.C_drew ?_))); (case side2 => exact (Kd.R_reads' HO106.out).2.1); rintro e w' ⟨rfl, ⟨nd, rfl⟩⟩; refine ⟨_, rfl, ?_⟩; have hcz44_0 : w41.cell? ⟨gb103, 0, none⟩ = some (.int .i64 a0_0) := (blk_cell BK103.out 0).trans rfl; have hcz44_1 : w41.cell? ⟨gb103, 1, none⟩ = some (.int .i64 a0_1) := (blk_cell BK103.out 1).trans rfl; have hcz44_2 : w41.cell? ⟨gb103, 2, none⟩ = some (.int .i64 a0_2) := (blk_cell BK103.out 2).trans rfl; have hcz44_3 : w41.cell? ⟨gb103, 3, none⟩ = some (.int .i64 a0_3) := (blk_cell BK103.out 3).trans rfl; have hcz44_4 : w41.cell? ⟨gb103, 4, none⟩ = some (.int .i64 a0_4) := (blk_cell BK103.out 4).trans rfl; have hcz44_5 : w41.cell? ⟨gb103, 5, none⟩ = some (.int .i64 a0_5) := (blk_cell BK103.out 5).trans rfl; have hcz44_6 : w41.cell? ⟨gb103, 6, none⟩ = some (.int .i64 a0_6) := (blk_cell BK103.out 6).trans rfl; have hcz44_7 : w41.cell? ⟨gb103, 7, none⟩ = some (.int .i64 a0_7) := (blk_cell BK103.out 7).trans rfl; have hcz44_8 : w41.cell? ⟨gb103, 8, none⟩ = some (.int .i64 a0_8) := (blk_cell BK103.out 8).trans rfl; have hfz44_0 := blk_frozen BK103.out 0; have hfz44_1 := blk_frozen BK103.out 1; have hfz44_2 := blk_frozen BK103.out 2; have hfz44_3 := blk_frozen BK103.out 3; have hfz44_4 := blk_frozen BK103.out 4; have hfz44_5 := blk_frozen BK103.out 5; have hfz44_6 := blk_frozen BK103.out 6; have hfz44_7 := blk_frozen BK103.out 7; have hfz44_8 := blk_frozen BK103.out 8) | ((with_reducible refine gate_dst (N := 12) rfl ?_); (try (refine gate_guard (by rfl) ?_; dsimp only)); refine Kd.R_lit (Kd.int .i64) _ 2 ?hg (N := 12) ?hd (xs := ([a0_1, a0_8] : List Int)) (inner := [.int .i64 a0_1, .int .i64 a0_8]) (ok := fun _ => True) (okp := fun _ => True) ?hr ?hp (fun _ hk => hk) trivial (Below.refl _ _) (Nat.le_refl _) (by simp) ?_; (case hd => rfl); (case hg => rfl); (case hr => first | (go_simp; done) | (go_simp; rfl)); (case hp => exact (Reps.one (show Kd.M (Kd.int .i64) _ _ _ a0_1 [.int .i64 a0_1] from rfl) (Reps.one (show Kd.M (Kd.int .i64) _ _ _ a0_8 [.int .i64 a0_8] from rfl) (Reps.none _ _)))); intro v109 w45 ho46 hb hg_ hnew_; clear hg_ hnew_; (first | rw [← Ny108.out] at ho46 | (simp only [Int.reduceToNat] at ho46; rw [← Ny108.out] at ho46)); have n0_ := Aside0.mk (Kd.R_elder' (by (with_reducible repeat (first | apply Kd.R_alloc | apply Kd.R_drewN | apply Kd.R_drew)); exact HO106.out) (Kd.R_base ho46) hb); have n1_ := Aside0.mk (Kd.R_lower (Kd.R_new' ho46 (Kd.R_lt (by (with_reducible repeat (first | apply Kd.R_alloc | apply Kd.R_drewN | apply Kd.R_drew)); exact HO106.out))) (below_size (by repeat (first | (with_reducible first | exact HB.out | apply below_alloc | apply pw_below_drewN | apply below_drew1 | refine below_set ?_ GE103.out) | exact HB.out)))); have n2_ := Aside0.mk (blk_below (g := gb103) (o := .cells #[.int .i64 a0_0, .int .i64 a0_1, .int .i64 a0_2, .int .i64 a0_3, .int .i64 a0_4, .int .i64 a0_5, .int .i64 a0_6, .int .i64 a0_7, .int .i64 a0_8] 29 (0, 0)) (by (with_reducible repeat (first | refine blk_drewN ?_ _ | refine blk_drew ?_ | refine blk_alloc ?_ _)); exact BK103.out) hb); have n3_ := Aside0.mk (below_step (by repeat (first | (with_reducible first | exact HB.out | apply below_alloc | apply pw_below_drewN | apply below_drew1 | refine below_set ?_ GE103.out) | exact HB.out)) hb); clear HO106; clear BK103; clear HB; have HO106 := n0_; have HO110 := n1_; have BK103 := n2_; have HB := n3_; clear n0_ n1_ n2_ n3_; clear hb ho46; obtain ⟨Ao47, co47, eo47⟩ := Kd.R_slice HO110.out; subst eo47) | (go_at_call 96; (with_reducible refine (message_within.calls k 0 255 _ _ y108 false _ ?side1 ?side2 A4.out).mono ?_); (case side1 => repeat (first | exact (Kd.R_reads' HO110.out).2.2 | (with_reducible refine Kd.C_alloc ?_ _) | (with_reducible refine Kd.C_drewN ?_ _) | (with_reducible refine Kd.C_drew ?_))); (case side2 => exact (Kd.R_reads' HO110.out).2.1); rintro e w' ⟨rfl, ⟨nd, rfl⟩⟩))
      go_ret
      exact ⟨by first | rfl | (simp [errW_none, errW_some] <;> rfl) | (simp [*, errW_none, errW_some] <;> rfl), by repeat (first | (with_reducible first | exact HB.out | apply below_alloc | apply pw_below_drewN | apply below_drew1 | refine below_set ?_ GE103.out) | exact HB.out)⟩
  · replace c3 := Bool.eq_false_iff.mpr c3
    subst c3
    have H1 : (some false) = some r := by rw [if_neg (show ¬ (false = true) by decide)] at H; exact H
    clear H
    have H := H1
    clear H1
    obtain rfl := Option.some.inj H
    go_enter Try.func32, Try.ntmps32
    go_wp2_with (first | ((with_reducible refine gate_dst (N := 1) rfl ?_); (try (refine gate_guard (by rfl) ?_; dsimp only)); refine box_event ?hg (N := 1) ?hd (cs := #[.int .i64 a0_0, .int .i64 a0_1, .int .i64 a0_2, .int .i64 a0_3, .int .i64 a0_4, .int .i64 a0_5, .int .i64 a0_6, .int .i64 a0_7, .int .i64 a0_8]) (t := 29) ?hr ?_; (case hd => rfl); (case hg => rfl); (case hr => first | (go_simp; done) | (go_simp; rfl)); intro gb103 hg w48 hbox hb; have n0_ := Aside0.mk (below_step (by repeat (first | (with_reducible first | exact HB.out | apply below_alloc | apply pw_below_drewN | apply below_drew1) | exact HB.out)) hb); have n1_ := Aside0.mk (hbox); have n2_ := Aside0.mk ((by rw [hg]; exact (below_size (by repeat (first | (with_reducible first | exact HB.out | apply below_alloc | apply pw_below_drewN | apply below_drew1) | exact HB.out))) : w.heap.size ≤ gb103)); have n3_ := Aside0.mk ((by rw [hg]; exact (below_size (by repeat (first | (with_reducible first | exact HB.out | apply below_alloc | apply pw_below_drewN | apply below_drew1) | exact HB.out))) : w.heap.size ≤ gb103)); clear HB; have HB := n0_; have BK103 := n1_; have GW103 := n2_; have GE103 := n3_; clear n0_ n1_ n2_ n3_; clear hb hbox hg; have hcz49_0 : w48.cell? ⟨gb103, 0, none⟩ = some (.int .i64 a0_0) := (blk_cell BK103.out 0).trans rfl; have hcz49_1 : w48.cell? ⟨gb103, 1, none⟩ = some (.int .i64 a0_1) := (blk_cell BK103.out 1).trans rfl; have hcz49_2 : w48.cell? ⟨gb103, 2, none⟩ = some (.int .i64 a0_2) := (blk_cell BK103.out 2).trans rfl; have hcz49_3 : w48.cell? ⟨gb103, 3, none⟩ = some (.int .i64 a0_3) := (blk_cell BK103.out 3).trans rfl; have hcz49_4 : w48.cell? ⟨gb103, 4, none⟩ = some (.int .i64 a0_4) := (blk_cell BK103.out 4).trans rfl; have hcz49_5 : w48.cell? ⟨gb103, 5, none⟩ = some (.int .i64 a0_5) := (blk_cell BK103.out 5).trans rfl; have hcz49_6 : w48.cell? ⟨gb103, 6, none⟩ = some (.int .i64 a0_6) := (blk_cell BK103.out 6).trans rfl; have hcz49_7 : w48.cell? ⟨gb103, 7, none⟩ = some (.int .i64 a0_7) := (blk_cell BK103.out 7).trans rfl; have hcz49_8 : w48.cell? ⟨gb103, 8, none⟩ = some (.int .i64 a0_8) := (blk_cell BK103.out 8).trans rfl; have hfz49_0 := blk_frozen BK103.out 0; have hfz49_1 := blk_frozen BK103.out 1; have hfz49_2 := blk_frozen BK103.out 2; have hfz49_3 := blk_frozen BK103.out 3; have hfz49_4 := blk_frozen BK103.out 4; have hfz49_5 := blk_frozen BK103.out 5; have hfz49_6 := blk_frozen BK103.out 6; have hfz49_7 := blk_frozen BK103.out 7; have hfz49_8 := blk_frozen BK103.out 8) | ((with_reducible refine gate_dst (N := 5) rfl ?_); (try (refine gate_guard (by rfl) ?_; dsimp only)); refine Kd.R_lit (Kd.int .i64) _ 2 ?hg (N := 5) ?hd (xs := ([a0_0] : List Int)) (inner := [.int .i64 a0_0]) (ok := fun _ => True) (okp := fun _ => True) ?hr ?hp (fun _ hk => hk) trivial (Below.refl _ _) (Nat.le_refl _) (by simp) ?_; (case hd => rfl); (case hg => rfl); (case hr => first | (go_simp; done) | (go_simp; rfl)); (case hp => exact (Reps.one (show Kd.M (Kd.int .i64) _ _ _ a0_0 [.int .i64 a0_0] from rfl) (Reps.none _ _))); intro v105 w50 ho51 hb hg_ hnew_; clear hg_ hnew_; (first | rw [← Ny104.out] at ho51 | (simp only [Int.reduceToNat] at ho51; rw [← Ny104.out] at ho51)); have n0_ := Aside0.mk (Kd.R_lower ho51 (below_size (by repeat (first | (with_reducible first | exact HB.out | apply below_alloc | apply pw_below_drewN | apply below_drew1 | refine below_set ?_ GE103.out) | exact HB.out)))); have n1_ := Aside0.mk (blk_below (g := gb103) (o := .cells #[.int .i64 a0_0, .int .i64 a0_1, .int .i64 a0_2, .int .i64 a0_3, .int .i64 a0_4, .int .i64 a0_5, .int .i64 a0_6, .int .i64 a0_7, .int .i64 a0_8] 29 (0, 0)) (by (with_reducible repeat (first | refine blk_drewN ?_ _ | refine blk_drew ?_ | refine blk_alloc ?_ _)); exact BK103.out) hb); have n2_ := Aside0.mk (below_step (by repeat (first | (with_reducible first | exact HB.out | apply below_alloc | apply pw_below_drewN | apply below_drew1 | refine below_set ?_ GE103.out) | exact HB.out)) hb); clear BK103; clear HB; have HO106 := n0_; have BK103 := n1_; have HB := n2_; clear n0_ n1_ n2_; clear hb ho51; obtain ⟨Ao52, co52, eo52⟩ := Kd.R_slice HO106.out; subst eo52) | ((with_reducible refine gate_callee (f := 96) rfl ?_); refine goesL_ (some 6) rfl rfl Try.func96 (by kernel_rfl) rfl #[.int .i64 1, .int .i64 9, .slice Ao52 y104.length co52] rfl (by (try simp only [List.map_toArray, List.map_cons, List.map_nil]); first | done | rfl | (simp only [List.length_drop, List.length_take]; rfl)) ?_; (with_reducible refine (message_within.calls k 1 9 _ _ y104 false _ ?side1 ?side2 A2.out).mono ?_); (case side1 => repeat (first | exact (Kd.R_reads' HO106.out).2.2 | (with_reducible refine Kd.C_alloc ?_ _) | (with_reducible refine Kd.C_drewN ?_ _) | (with_reducible refine Kd.C_drew ?_))); (case side2 => exact (Kd.R_reads' HO106.out).2.1); rintro e w' ⟨rfl, ⟨nd, rfl⟩⟩; refine ⟨_, rfl, ?_⟩))
    go_ret
    exact ⟨by first | rfl | (simp [errW_none, errW_some] <;> rfl) | (simp [*, errW_none, errW_some] <;> rfl), by repeat (first | (with_reducible first | exact HB.out | apply below_alloc | apply pw_below_drewN | apply below_drew1 | refine below_set ?_ GE103.out) | exact HB.out)⟩

end Go.Proofs.Ytalpemoodollpaa.P
/- Messages: which are right, their bytes. -/
namespace Go.Proofs.Ytalpemoodollpaa.P
open Go.RowKit Go.Proofs.YtalpemoodollpaaW.PrintWords Go.Proofs.YtalpemoodollpaaW.PrintLast Go.Proofs.YtalpemoodollpaaW.PrintMore
set_option linter.unusedVariables false
set_option linter.unusedSimpArgs false

def within_ (lo hi a : Int) : Bool := decide (lo ≤ a) && decide (a ≤ hi)
def msgRight (m : S29) : Bool :=
  within_ 1 9 m.f0 && within_ 0 255 m.f1 && within_ 0 255 m.f8 && within_ 0 4611686018427387904 m.f2 && within_ 0 4611686018427387904 m.f3 && within_ (-1) 4611686018427387904 m.f4 && within_ (-1) 4611686018427387904 m.f5
def i64B (a : Int) : Bool := within_ (-9223372036854775808) 9223372036854775807 a
def msgForm (m : S29) : List Int := [m.f0, m.f1, m.f8] ++ numForm m.f2.toNat ++ numForm m.f3.toNat ++ intForm m.f4 ++ intForm m.f5 ++ intForm m.f6 ++ intForm m.f7
theorem within_iff {lo hi a : Int} : within_ lo hi a = true ↔ lo ≤ a ∧ a ≤ hi := by simp [within_]
theorem wrap1 : wrap64 (0 + 1) = 1 := by rw [wrap64_eq]; omega
theorem wrap2 : wrap64 (1 + 1) = 2 := by rw [wrap64_eq]; omega
theorem within1 (lo hi a : Int) : message_within.f 4 lo hi [a] = some (within_ lo hi a) := by
  unfold message_within.f
  simp only [message_within.l0, wrap1, wrap2, rd, within_, List.length_cons, List.length_nil]
  by_cases h1 : a < lo
  · have h2 : ¬ lo ≤ a := by omega
    simp [h1, h2]
  · by_cases h3 : a > hi
    · have h2 : lo ≤ a := by omega
      have h4 : ¬ a ≤ hi := by omega
      simp [h1, h2, h3, h4]
    · have h2 : lo ≤ a := by omega
      have h4 : a ≤ hi := by omega
      simp [h1, h2, h3, h4]
theorem within2 (lo hi a b : Int) : message_within.f 4 lo hi [a, b] = some (within_ lo hi a && within_ lo hi b) := by
  unfold message_within.f
  simp only [message_within.l0, wrap1, wrap2, rd, within_, List.length_cons, List.length_nil]
  by_cases h1 : a < lo
  · have h2 : ¬ lo ≤ a := by omega
    simp [h1, h2]
  · by_cases h3 : a > hi
    · have h2 : lo ≤ a := by omega
      have h4 : ¬ a ≤ hi := by omega
      simp [h1, h2, h3, h4]
    · have h2 : lo ≤ a := by omega
      have h4 : a ≤ hi := by omega
      by_cases h5 : b < lo
      · have h6 : ¬ lo ≤ b := by omega
        simp [h1, h2, h3, h4, h5, h6]
      · by_cases h7 : b > hi
        · have h6 : lo ≤ b := by omega
          have h8 : ¬ b ≤ hi := by omega
          simp [h1, h2, h3, h4, h5, h6, h7, h8]
        · have h6 : lo ≤ b := by omega
          have h8 : b ≤ hi := by omega
          simp [h1, h2, h3, h4, h5, h6, h7, h8]
theorem msgRight_f (m : S29) : message_Right.f 4 m.f0 m.f1 m.f2 m.f3 m.f4 m.f5 m.f6 m.f7 m.f8 = some (msgRight m) := by
  unfold message_Right.f msgRight
  rw [within1, within2, within2, within2]
  simp only [Option.bind_some]
  cases within_ 1 9 m.f0 <;> cases within_ 0 255 m.f1 <;> cases within_ 0 255 m.f8 <;> cases within_ 0 4611686018427387904 m.f2 <;> cases within_ 0 4611686018427387904 m.f3 <;> simp
def msgVal (m : S29) : Value := .agg #[.int .i64 m.f0, .int .i64 m.f1, .int .i64 m.f2, .int .i64 m.f3, .int .i64 m.f4, .int .i64 m.f5, .int .i64 m.f6, .int .i64 m.f7, .int .i64 m.f8]
theorem msgRight_calls (m : S29) (w : World) : Calls Try.prog 32 #[.agg #[.int .i64 m.f0, .int .i64 m.f1, .int .i64 m.f2, .int .i64 m.f3, .int .i64 m.f4, .int .i64 m.f5, .int .i64 m.f6, .int .i64 m.f7, .int .i64 m.f8]] w fun e w' => e = .returned (.bool (msgRight m)) ∧ Below w.heap.size w w' :=
  message_Right.calls 4 _ _ _ _ _ _ _ _ _ _ w (msgRight_f m)
theorem msgForm_length (m : S29) (h : msgRight m = true) : (msgForm m).length ≤ 55 ∧ 37 ≤ (msgForm m).length := by
  simp only [msgRight, Bool.and_eq_true, within_iff] at h
  have h2 := numForm_ten m.f2 (by omega)
  have h3 := numForm_ten m.f3 (by omega)
  have p2 := numForm_pos m.f2.toNat
  have p3 := numForm_pos m.f3.toNat
  simp only [msgForm, List.length_append, List.length_cons, List.length_nil, intForm_length]
  omega
theorem msgForm_byt (m : S29) (h : msgRight m = true) : Byt (msgForm m) := by
  simp only [msgRight, Bool.and_eq_true, within_iff] at h
  unfold msgForm
  refine ((((((Byt.append ?_ (numForm_byt _)).append (numForm_byt _)).append (intForm_byt _)).append (intForm_byt _)).append (intForm_byt _)).append (intForm_byt _))
  exact Byt.mk (by omega) (Byt.mk (by omega) (Byt.mk (by omega) Byt.nil))
end Go.Proofs.Ytalpemoodollpaa.P
-- Printed by hookprint.py (the session's own program, over the kit's print.py): checked by Lean like any text.
namespace Go.Proofs.Ytalpemoodollpaa.P
open Go.RowKit Go.Proofs.YtalpemoodollpaaW.PrintWords Go.Proofs.YtalpemoodollpaaW.PrintLast Go.Proofs.YtalpemoodollpaaW.PrintMore
attribute [local go_sem] max2_int min2_int max_two min_two max_three min_three max_four min_four   -- for this text's walks alone
set_option linter.unusedVariables false
set_option linter.unusedSimpArgs false

theorem eqA29 (d : Nat) (w : World) (x0 y0 : Int) (x1 y1 : Int) (x2 y2 : Int) (x3 y3 : Int) (x4 y4 : Int) (x5 y5 : Int) (x6 y6 : Int) (x7 y7 : Int) (x8 y8 : Int) :
    (Op.equalIn (d + 2) 29 (.agg #[.int .i64 x0, .int .i64 x1, .int .i64 x2, .int .i64 x3, .int .i64 x4, .int .i64 x5, .int .i64 x6, .int .i64 x7, .int .i64 x8]) (.agg #[.int .i64 y0, .int .i64 y1, .int .i64 y2, .int .i64 y3, .int .i64 y4, .int .i64 y5, .int .i64 y6, .int .i64 y7, .int .i64 y8])).run Try.prog w = .ok (x0 == y0 && (x1 == y1 && (x2 == y2 && (x3 == y3 && (x4 == y4 && (x5 == y5 && (x6 == y6 && (x7 == y7 && (x8 == y8))))))))) w := by
  refine eqA_of Try.underlying29 (by kernel_rfl) ?_
  refine eqf_cons (by rfl) (by go_simp; rfl) (by go_simp; rfl) (by go_simp) ?_
  refine eqf_cons (by rfl) (by go_simp; rfl) (by go_simp; rfl) (by go_simp) ?_
  refine eqf_cons (by rfl) (by go_simp; rfl) (by go_simp; rfl) (by go_simp) ?_
  refine eqf_cons (by rfl) (by go_simp; rfl) (by go_simp; rfl) (by go_simp) ?_
  refine eqf_cons (by rfl) (by go_simp; rfl) (by go_simp; rfl) (by go_simp) ?_
  refine eqf_cons (by rfl) (by go_simp; rfl) (by go_simp; rfl) (by go_simp) ?_
  refine eqf_cons (by rfl) (by go_simp; rfl) (by go_simp; rfl) (by go_simp) ?_
  refine eqf_cons (by rfl) (by go_simp; rfl) (by go_simp; rfl) (by go_simp) ?_
  exact eqf_last (by rfl) (by go_simp; rfl) (by go_simp; rfl) (by go_simp)
end Go.Proofs.Ytalpemoodollpaa.P
-- Printed by hookprint.py (the session's own program, over the kit's print.py): checked by Lean like any text.
namespace Go.Proofs.Ytalpemoodollpaa.P
open Go.RowKit Go.Proofs.YtalpemoodollpaaW.PrintWords Go.Proofs.YtalpemoodollpaaW.PrintLast Go.Proofs.YtalpemoodollpaaW.PrintMore
attribute [local go_sem] max2_int min2_int max_two min_two max_three min_three max_four min_four   -- for this text's walks alone
set_option linter.unusedVariables false
set_option linter.unusedSimpArgs false

theorem eqA95 (d : Nat) (w : World) (x0 y0 : Int) (x1 y1 : Int) (x2 y2 : Int) (x3 y3 : Int) (x4 y4 : Int) (x5 y5 : Int) (x6 y6 : Int) (x7 y7 : Int) (x8 y8 : Int) :
    (Op.equalIn (d + 2) 95 (.agg #[.int .i64 x0, .int .i64 x1, .int .i64 x2, .int .i64 x3, .int .i64 x4, .int .i64 x5, .int .i64 x6, .int .i64 x7, .int .i64 x8]) (.agg #[.int .i64 y0, .int .i64 y1, .int .i64 y2, .int .i64 y3, .int .i64 y4, .int .i64 y5, .int .i64 y6, .int .i64 y7, .int .i64 y8])).run Try.prog w = .ok (x0 == y0 && (x1 == y1 && (x2 == y2 && (x3 == y3 && (x4 == y4 && (x5 == y5 && (x6 == y6 && (x7 == y7 && (x8 == y8))))))))) w := by
  refine eqA_of Try.underlying95 (by kernel_rfl) ?_
  refine eqf_cons (by rfl) (by go_simp; rfl) (by go_simp; rfl) (by go_simp) ?_
  refine eqf_cons (by rfl) (by go_simp; rfl) (by go_simp; rfl) (by go_simp) ?_
  refine eqf_cons (by rfl) (by go_simp; rfl) (by go_simp; rfl) (by go_simp) ?_
  refine eqf_cons (by rfl) (by go_simp; rfl) (by go_simp; rfl) (by go_simp) ?_
  refine eqf_cons (by rfl) (by go_simp; rfl) (by go_simp; rfl) (by go_simp) ?_
  refine eqf_cons (by rfl) (by go_simp; rfl) (by go_simp; rfl) (by go_simp) ?_
  refine eqf_cons (by rfl) (by go_simp; rfl) (by go_simp; rfl) (by go_simp) ?_
  refine eqf_cons (by rfl) (by go_simp; rfl) (by go_simp; rfl) (by go_simp) ?_
  exact eqf_last (by rfl) (by go_simp; rfl) (by go_simp; rfl) (by go_simp)
end Go.Proofs.Ytalpemoodollpaa.P
/- The contract of command.Right. -/
namespace Go.Proofs.Ytalpemoodollpaa.P
open Go.RowKit Go.Proofs.YtalpemoodollpaaW.PrintWords Go.Proofs.YtalpemoodollpaaW.PrintLast Go.Proofs.YtalpemoodollpaaW.PrintMore
set_option linter.unusedVariables false
set_option linter.unusedSimpArgs false
attribute [local go_sem high] eqA95

/-- A command. -/
structure Cmd where
  f0 : Int
  f1 : Int
  f2 : Int
  f3 : Int
  f4 : Int
  f5 : Int
  f6 : Int
  f7 : Int
  f8 : Int
def cmdRight (c : Cmd) : Bool :=
  within_ 0 255 c.f1 && within_ 0 4611686018427387904 c.f2 &&
    (if c.f0 = 1 then within_ 0 1073741824 c.f3 && within_ 0 1 c.f4 && within_ 1 5 c.f5 && within_ 0 7 c.f8
     else if c.f0 = 3 then (c.f3 == 0 && (c.f4 == 0 && (c.f5 == 0 && c.f8 == 0)))
     else if c.f0 = 2 then (c.f3 == 0 && (c.f4 == 0 && (c.f5 == 0 && (c.f6 == 0 && (c.f7 == 0 && c.f8 == 0)))))
     else false)
theorem in_calls (a lo hi : Int) (w : World) : Calls Try.prog 128 #[.int .i64 a, .int .i64 lo, .int .i64 hi] w fun e w' => e = .returned (.bool (within_ lo hi a)) ∧ w = w' := by
  by_cases h : lo ≤ a
  · by_cases h2 : a ≤ hi
    · have H : Aside0 (within_ lo hi a = true) := ⟨by simp [within_, h, h2]⟩
      go_enter Try.func128, Try.ntmps128
      go_wp2
      go_ret
      rw [H.out]
      exact ⟨rfl, rfl⟩
    · have H : Aside0 (within_ lo hi a = false) := ⟨by simp [within_, h2]⟩
      go_enter Try.func128, Try.ntmps128
      go_wp2
      go_ret
      rw [H.out]
      exact ⟨rfl, rfl⟩
  · have H : Aside0 (within_ lo hi a = false) := ⟨by simp [within_, h]⟩
    go_enter Try.func128, Try.ntmps128
    go_wp2
    go_ret
    rw [H.out]
    exact ⟨rfl, rfl⟩
set_option maxRecDepth 100000 in
set_option maxHeartbeats 4000000 in
theorem cmdRight_calls (a0_0 a0_1 a0_2 a0_3 a0_4 a0_5 a0_6 a0_7 a0_8 : Int) (w : World) : Calls Try.prog 87 #[.agg #[.int .i64 a0_0, .int .i64 a0_1, .int .i64 a0_2, .int .i64 a0_3, .int .i64 a0_4, .int .i64 a0_5, .int .i64 a0_6, .int .i64 a0_7, .int .i64 a0_8]] w fun e w' => e = .returned (.bool (cmdRight ⟨a0_0, a0_1, a0_2, a0_3, a0_4, a0_5, a0_6, a0_7, a0_8⟩)) ∧ Below w.heap.size w w' := by
  have hu95 := Try.underlying95
  cases h1 : within_ 0 255 a0_1 with
  | false =>
    have H : Aside0 (cmdRight ⟨a0_0, a0_1, a0_2, a0_3, a0_4, a0_5, a0_6, a0_7, a0_8⟩ = false) := ⟨by unfold cmdRight; simp [h1]⟩
    go_enter Try.func87, Try.ntmps87
    go_wp2_with fail
    refine (in_calls _ _ _ _).mono ?_
    rintro e w1 ⟨rfl, rfl⟩
    rw [h1]
    go_wp2
    go_ret
    rw [H.out]
    exact ⟨rfl, by repeat (first | exact Below.refl _ _ | apply below_alloc | apply below_drew | (refine Below.setCell ?_ (by simp) _))⟩
  | true =>
    by_cases h2 : a0_2 < 0
    · have h2' : within_ 0 4611686018427387904 a0_2 = false := by simp only [within_]; rw [show decide (0 ≤ a0_2) = false by simpa using h2]; rfl
      have H : Aside0 (cmdRight ⟨a0_0, a0_1, a0_2, a0_3, a0_4, a0_5, a0_6, a0_7, a0_8⟩ = false) := ⟨by unfold cmdRight; simp [h1, h2']⟩
      go_enter Try.func87, Try.ntmps87
      go_wp2_with fail
      refine (in_calls _ _ _ _).mono ?_
      rintro e w1 ⟨rfl, rfl⟩
      rw [h1]
      go_wp2
      go_ret
      rw [H.out]
      exact ⟨rfl, by repeat (first | exact Below.refl _ _ | apply below_alloc | apply below_drew | (refine Below.setCell ?_ (by simp) _))⟩
    by_cases h3 : 4611686018427387904 < a0_2
    · have h2' : within_ 0 4611686018427387904 a0_2 = false := by simp only [within_]; rw [show decide (a0_2 ≤ 4611686018427387904) = false by simpa using h3]; simp
      have H : Aside0 (cmdRight ⟨a0_0, a0_1, a0_2, a0_3, a0_4, a0_5, a0_6, a0_7, a0_8⟩ = false) := ⟨by unfold cmdRight; simp [h1, h2']⟩
      go_enter Try.func87, Try.ntmps87
      go_wp2_with fail
      refine (in_calls _ _ _ _).mono ?_
      rintro e w1 ⟨rfl, rfl⟩
      rw [h1]
      go_wp2
      go_ret
      rw [H.out]
      exact ⟨rfl, by repeat (first | exact Below.refl _ _ | apply below_alloc | apply below_drew | (refine Below.setCell ?_ (by simp) _))⟩
    have h2' : within_ 0 4611686018427387904 a0_2 = true := within_iff.2 (by omega)
    by_cases k1 : a0_0 = 1
    · subst k1
      cases h4 : within_ 0 1073741824 a0_3 with
      | false =>
        have H : Aside0 (cmdRight ⟨1, a0_1, a0_2, a0_3, a0_4, a0_5, a0_6, a0_7, a0_8⟩ = false) := ⟨by unfold cmdRight; simp [h1, h2', h4]⟩
        go_enter Try.func87, Try.ntmps87
        go_wp2_with fail
        refine (in_calls _ _ _ _).mono ?_
        rintro e w1 ⟨rfl, rfl⟩
        rw [h1]
        go_wp2_with fail
        refine (in_calls _ _ _ _).mono ?_
        rintro e w1 ⟨rfl, rfl⟩
        rw [h4]
        go_wp2
        go_ret
        rw [H.out]
        exact ⟨rfl, by repeat (first | exact Below.refl _ _ | apply below_alloc | apply below_drew | (refine Below.setCell ?_ (by simp) _))⟩
      | true =>
        cases h5 : within_ 0 1 a0_4 with
        | false =>
          have H : Aside0 (cmdRight ⟨1, a0_1, a0_2, a0_3, a0_4, a0_5, a0_6, a0_7, a0_8⟩ = false) := ⟨by unfold cmdRight; simp [h1, h2', h4, h5]⟩
          go_enter Try.func87, Try.ntmps87
          go_wp2_with fail
          refine (in_calls _ _ _ _).mono ?_
          rintro e w1 ⟨rfl, rfl⟩
          rw [h1]
          go_wp2_with fail
          refine (in_calls _ _ _ _).mono ?_
          rintro e w1 ⟨rfl, rfl⟩
          rw [h4]
          go_wp2_with fail
          refine (in_calls _ _ _ _).mono ?_
          rintro e w1 ⟨rfl, rfl⟩
          rw [h5]
          go_wp2
          go_ret
          rw [H.out]
          exact ⟨rfl, by repeat (first | exact Below.refl _ _ | apply below_alloc | apply below_drew | (refine Below.setCell ?_ (by simp) _))⟩
        | true =>
          cases h6 : within_ 1 5 a0_5 with
          | false =>
            have H : Aside0 (cmdRight ⟨1, a0_1, a0_2, a0_3, a0_4, a0_5, a0_6, a0_7, a0_8⟩ = false) := ⟨by unfold cmdRight; simp [h1, h2', h4, h5, h6]⟩
            go_enter Try.func87, Try.ntmps87
            go_wp2_with fail
            refine (in_calls _ _ _ _).mono ?_
            rintro e w1 ⟨rfl, rfl⟩
            rw [h1]
            go_wp2_with fail
            refine (in_calls _ _ _ _).mono ?_
            rintro e w1 ⟨rfl, rfl⟩
            rw [h4]
            go_wp2_with fail
            refine (in_calls _ _ _ _).mono ?_
            rintro e w1 ⟨rfl, rfl⟩
            rw [h5]
            go_wp2_with fail
            refine (in_calls _ _ _ _).mono ?_
            rintro e w1 ⟨rfl, rfl⟩
            rw [h6]
            go_wp2
            go_ret
            rw [H.out]
            exact ⟨rfl, by repeat (first | exact Below.refl _ _ | apply below_alloc | apply below_drew | (refine Below.setCell ?_ (by simp) _))⟩
          | true =>
            have H : Aside0 (cmdRight ⟨1, a0_1, a0_2, a0_3, a0_4, a0_5, a0_6, a0_7, a0_8⟩ = within_ 0 7 a0_8) := ⟨by unfold cmdRight; simp [h1, h2', h4, h5, h6]⟩
            go_enter Try.func87, Try.ntmps87
            go_wp2_with fail
            refine (in_calls _ _ _ _).mono ?_
            rintro e w1 ⟨rfl, rfl⟩
            rw [h1]
            go_wp2_with fail
            refine (in_calls _ _ _ _).mono ?_
            rintro e w1 ⟨rfl, rfl⟩
            rw [h4]
            go_wp2_with fail
            refine (in_calls _ _ _ _).mono ?_
            rintro e w1 ⟨rfl, rfl⟩
            rw [h5]
            go_wp2_with fail
            refine (in_calls _ _ _ _).mono ?_
            rintro e w1 ⟨rfl, rfl⟩
            rw [h6]
            go_wp2_with fail
            refine (in_calls _ _ _ _).mono ?_
            rintro e w1 ⟨rfl, rfl⟩
            go_wp2
            go_ret
            rw [H.out]
            exact ⟨rfl, by repeat (first | exact Below.refl _ _ | apply below_alloc | apply below_drew | (refine Below.setCell ?_ (by simp) _))⟩
    by_cases k3 : a0_0 = 3
    · subst k3
      have H : Aside0 (cmdRight ⟨3, a0_1, a0_2, a0_3, a0_4, a0_5, a0_6, a0_7, a0_8⟩ = (a0_3 == 0 && (a0_4 == 0 && (a0_5 == 0 && a0_8 == 0)))) := ⟨by unfold cmdRight; simp [h1, h2']⟩
      go_enter Try.func87, Try.ntmps87
      go_wp2_with fail
      refine (in_calls _ _ _ _).mono ?_
      rintro e w1 ⟨rfl, rfl⟩
      rw [h1]
      go_wp2
      go_ret
      rw [H.out]
      exact ⟨rfl, by repeat (first | exact Below.refl _ _ | apply below_alloc | apply below_drew | (refine Below.setCell ?_ (by simp) _))⟩
    by_cases k2 : a0_0 = 2
    · subst k2
      have H : Aside0 (cmdRight ⟨2, a0_1, a0_2, a0_3, a0_4, a0_5, a0_6, a0_7, a0_8⟩ = (a0_3 == 0 && (a0_4 == 0 && (a0_5 == 0 && (a0_6 == 0 && (a0_7 == 0 && a0_8 == 0)))))) := ⟨by unfold cmdRight; simp [h1, h2']⟩
      go_enter Try.func87, Try.ntmps87
      go_wp2_with fail
      refine (in_calls _ _ _ _).mono ?_
      rintro e w1 ⟨rfl, rfl⟩
      rw [h1]
      go_wp2
      go_ret
      rw [H.out]
      exact ⟨rfl, by repeat (first | exact Below.refl _ _ | apply below_alloc | apply below_drew | (refine Below.setCell ?_ (by simp) _))⟩
    have q1 : (a0_0 == 1) = false := by simpa using k1
    have q2 : (a0_0 == 2) = false := by simpa using k2
    have q3 : (a0_0 == 3) = false := by simpa using k3
    have H : Aside0 (cmdRight ⟨a0_0, a0_1, a0_2, a0_3, a0_4, a0_5, a0_6, a0_7, a0_8⟩ = false) := ⟨by unfold cmdRight; simp [h1, h2', k1, k2, k3]⟩
    go_enter Try.func87, Try.ntmps87
    go_wp2_with fail
    refine (in_calls _ _ _ _).mono ?_
    rintro e w1 ⟨rfl, rfl⟩
    rw [h1]
    go_wp2
    go_ret
    rw [H.out]
    exact ⟨rfl, by repeat (first | exact Below.refl _ _ | apply below_alloc | apply below_drew | (refine Below.setCell ?_ (by simp) _))⟩
end Go.Proofs.Ytalpemoodollpaa.P
/- The contract of command.Decode. -/
namespace Go.Proofs.Ytalpemoodollpaa.P
open Go.RowKit Go.Proofs.YtalpemoodollpaaW.PrintWords Go.Proofs.YtalpemoodollpaaW.PrintLast Go.Proofs.YtalpemoodollpaaW.PrintMore
set_option linter.unusedVariables false
set_option linter.unusedSimpArgs false
attribute [local go_sem] max2_int min2_int max_two min_two
/-- The end of a decoding: the fault, or the command. -/
def cmdFin (k sym id owner side typ price qty flags : Int) (s : List Int × Int) : Cmd × Int :=
  if s.2 ≠ 0 then (⟨0, 0, 0, 0, 0, 0, 0, 0, 0⟩, s.2)
  else if 0 < s.1.length ∨ cmdRight ⟨k, sym, mn id 4611686018427387905, mn owner 1073741825, side, typ, price, qty, flags⟩ = false then (⟨0, 0, 0, 0, 0, 0, 0, 0, 0⟩, 4)
  else (⟨k, sym, mn id 4611686018427387905, mn owner 1073741825, side, typ, price, qty, flags⟩, 0)
def cmdMid (k sym id owner side typ flags : Int) (s : List Int × Int) : Cmd × Int :=
  if k = 2 then cmdFin k sym id owner side typ 0 0 flags s
  else cmdFin k sym id owner side typ (unzig (rUint s 8).1) (unzig (rUint (rUint s 8).2 8).1) flags (rUint (rUint s 8).2 8).2
def cmdDec (b : List Int) : Cmd × Int :=
  if (rUint (b, 0) 1).2.2 = 0 ∧ ((rUint (b, 0) 1).1 < 1 ∨ 3 < (rUint (b, 0) 1).1) then (⟨0, 0, 0, 0, 0, 0, 0, 0, 0⟩, 4)
  else if (rUint (b, 0) 1).1 = 1 then
    cmdMid 1 (rUint (rUint (b, 0) 1).2 1).1 (rNum (rUint (rUint (b, 0) 1).2 1).2).1 (rNum (rNum (rUint (rUint (b, 0) 1).2 1).2).2).1
      (rUint (rNum (rNum (rUint (rUint (b, 0) 1).2 1).2).2).2 1).1 (rUint (rUint (rNum (rNum (rUint (rUint (b, 0) 1).2 1).2).2).2 1).2 1).1 (rUint (rUint (rUint (rNum (rNum (rUint (rUint (b, 0) 1).2 1).2).2).2 1).2 1).2 1).1
      (rUint (rUint (rUint (rNum (rNum (rUint (rUint (b, 0) 1).2 1).2).2).2 1).2 1).2 1).2
  else cmdMid (rUint (b, 0) 1).1 (rUint (rUint (b, 0) 1).2 1).1 (rNum (rUint (rUint (b, 0) 1).2 1).2).1 0 0 0 0 (rNum (rUint (rUint (b, 0) 1).2 1).2).2
/-- 'one': a byte. -/
theorem RK.one {w0 W : World} {lo g b : Nat} {s : List Int × Int} (h : RK w0 W lo g s) (hc : W.cell? ⟨b, 0, none⟩ = some (.pointer (some ⟨g, 0, none⟩))) :
    Calls Try.prog 121 #[.pointer (some ⟨b, 0, none⟩)] W fun e w' => e = .returned (.int .i64 (rUint s 1).1) ∧ RK w0 w' lo g (rUint s 1).2 ∧ KeepG W w' g := by
  have hr := rUint1_range s h.byt
  have HT := Aside0.mk (h.uint 1)
  clear h
  generalize rUint s 1 = T at *
  obtain ⟨n, s1⟩ := T
  dsimp only at hr
  have h1 := hr.1
  have h2 := hr.2
  clear hr
  go_enter Try.func121, Try.ntmps121
  go_wp2_with fail
  refine HT.out.mono ?_
  rintro e w' ⟨rfl, hk, hg⟩
  have HK := Aside0.mk hk
  have HG := Aside0.mk hg
  clear hk hg
  go_wp2
  go_ret
  exact ⟨rfl, HK.out, HG.out⟩
theorem RK.one' {w W : World} {t b4 g lo : Nat} {s : List Int × Int} {x0 x1 x2 x3 x4 x5 x6 x7 x8 : Int} (h : DS w W t b4 g lo s x0 x1 x2 x3 x4 x5 x6 x7 x8) :
    Calls Try.prog 121 #[.pointer (some ⟨b4, 0, none⟩)] W fun e w' => e = .returned (.int .i64 (rUint s 1).1) ∧ DS w w' t b4 g lo (rUint s 1).2 x0 x1 x2 x3 x4 x5 x6 x7 x8 :=
  (h.rk.one h.cell).mono fun e w' ⟨he, hk, kg⟩ => ⟨he, h.step hk kg⟩
set_option maxRecDepth 100000 in
set_option maxHeartbeats 2000000 in
theorem cmdDec_calls (A0 : Option Addr) (c0 : Nat) (b : List Int) (w : World) (hr0 : Kd.C (Kd.int .u8) w A0 b.length b) (hl : b.length ≤ 140737488355328) (hb : Byt b) :
    Calls Try.prog 72 #[.slice A0 b.length c0] w fun e w' => e = .returned (.tuple #[.agg #[.int .i64 (cmdDec b).1.f0, .int .i64 (cmdDec b).1.f1, .int .i64 (cmdDec b).1.f2, .int .i64 (cmdDec b).1.f3, .int .i64 (cmdDec b).1.f4, .int .i64 (cmdDec b).1.f5, .int .i64 (cmdDec b).1.f6, .int .i64 (cmdDec b).1.f7, .int .i64 (cmdDec b).1.f8], .int .i64 (cmdDec b).2]) ∧ Below w.heap.size w w' := by
  have hu95 := Try.underlying95
  have HR := Aside0.mk hr0
  have HY := Aside0.mk hb
  clear hr0 hb
  generalize hG : cmdDec b = G
  unfold cmdDec at hG
  have HG := Aside0.mk hG
  clear hG
  have B0 := Aside0.mk (below_alloc (Below.refl w.heap.size w) (.cells #[.int .i64 0, .int .i64 0, .int .i64 0, .int .i64 0, .int .i64 0, .int .i64 0, .int .i64 0, .int .i64 0, .int .i64 0] 95))
  have BX0 := Aside0.mk (show Box9 (w.alloc (.cells #[.int .i64 0, .int .i64 0, .int .i64 0, .int .i64 0, .int .i64 0, .int .i64 0, .int .i64 0, .int .i64 0, .int .i64 0] 95)) 95 w.heap.size 0 0 0 0 0 0 0 0 0 from blk_new w _)
  go_enter Try.func72, Try.ntmps72
  go_wp2_with fail
  refine (RK.new (w0 := w) A0 c0 b B0.out (Kd.C_below HR.out B0.out) hl HY.out).mono ?_
  rintro e w1 ⟨g, rfl, hk, hb1⟩
  have BX1 := Aside0.mk (show Box9 w1 95 w.heap.size 0 0 0 0 0 0 0 0 0 from (hb1.block _ (by simp)).trans BX0.out)
  have D1 := Aside0.mk (show DS w (w1.alloc (.cells #[.pointer (some ⟨g, 0, none⟩)] 78)).drew 95 w1.heap.size g (w.heap.size + 1) (b, 0) 0 0 0 0 0 0 0 0 0 from by
    have hk2 := hk
    rw [World.size_alloc] at hk2
    have hk3 := hk2.alloc (.cells #[.pointer (some ⟨g, 0, none⟩)] 78)
    have := hk2.lt
    have := hb1.size
    rw [World.size_alloc] at this
    exact ⟨hk3.below (Below.refl _ _).drew, blk_alloc BX1.out _, blk_new w1 _, by omega, by omega, by omega⟩)
  clear hk hb1
  go_wp2
  go_region
  go_wp2_with fail
  generalize (w1.alloc (.cells #[.pointer (some ⟨g, 0, none⟩)] 78)).drew = w2 at *
  generalize hb4 : w1.heap.size = b4 at *
  clear hb4
  obtain ⟨lo, hlo⟩ : ∃ lo, lo = w.heap.size + 1 := ⟨_, rfl⟩
  rw [← hlo] at D1
  clear hlo BX1 BX0 B0 HY HR hl
  have CX := Aside0.mk (RK.one' D1.out)
  have CR := rUint1_range _ D1.out.rk.byt
  generalize rUint (b, 0) 1 = T at *
  obtain ⟨k, s1⟩ := T
  try dsimp only at *
  have kr := Aside0.mk CR
  clear CR
  refine CX.out.mono ?_
  rintro e w2 ⟨rfl, hd⟩
  have Dw2 := Aside0.mk hd
  clear hd CX
  have D3 := Aside0.mk (Dw2.out.set0 k)
  obtain ⟨c0, c1, c2, c3, c4, c5, c6, c7, c8⟩ := Dw2.out.bx.cells
  obtain ⟨z0, z1, z2, z3, z4, z5, z6, z7, z8⟩ := Dw2.out.frozen
  have cp := Dw2.out.cell
  obtain ⟨e0, e1, e2, e3, e4, e5, e6, e7, e8⟩ := D3.out.bx.cells
  have ep := D3.out.cell
  obtain ⟨l1, f1⟩ := s1
  have FX := Aside0.mk D3.out.rk.fault
  try dsimp only at *
  go_wp2_with fail
  refine FX.out.mono ?_
  rintro e w3 ⟨rfl, rfl⟩
  dsimp only
  clear FX e0 e1 e2 e3 e4 e5 e6 e7 e8 ep
  clear c0 c1 c2 c3 c4 c5 c6 c7 c8 z0 z1 z2 z3 z4 z5 z6 z7 z8 cp
  generalize (w2.setCell ⟨w.heap.size, 0, none⟩ (.int .i64 k)) = w3 at *
  have DZ := Aside0.mk (((((((((D3.out.set0 0).set1 0).set2 0).set3 0).set4 0).set5 0).set6 0).set7 0).set8 0)
  have k0 := kr.out.1
  have k1 := kr.out.2
  by_cases hbad : f1 = 0 ∧ (k < 1 ∨ 3 < k)
  · rw [if_pos hbad] at HG
    obtain rfl := HG.out
    obtain ⟨rfl, hk⟩ := hbad
    obtain ⟨c0, c1, c2, c3, c4, c5, c6, c7, c8⟩ := D3.out.bx.cells
    obtain ⟨z0, z1, z2, z3, z4, z5, z6, z7, z8⟩ := D3.out.frozen
    have cp := D3.out.cell
    by_cases hk1 : k < 1
    · clear hk
      go_wp2
      exact bodyPost_ret (results_ct (fn := Try.f72) (p := 2) (u := 3) (ty := 95) rfl _ _ w.heap.size 95 #[.int .i64 0, .int .i64 0, .int .i64 0, .int .i64 0, .int .i64 0, .int .i64 0, .int .i64 0, .int .i64 0, .int .i64 0] (0, 0) _ rfl DZ.out.bx Try.underlying95 rfl (by kernel_rfl)) rfl ⟨rfl, DZ.out.rk.bel⟩
    · have hk3 : 3 < k := hk.resolve_left hk1
      clear hk
      go_wp2
      exact bodyPost_ret (results_ct (fn := Try.f72) (p := 2) (u := 3) (ty := 95) rfl _ _ w.heap.size 95 #[.int .i64 0, .int .i64 0, .int .i64 0, .int .i64 0, .int .i64 0, .int .i64 0, .int .i64 0, .int .i64 0, .int .i64 0] (0, 0) _ rfl DZ.out.bx Try.underlying95 rfl (by kernel_rfl)) rfl ⟨rfl, DZ.out.rk.bel⟩
  · rw [if_neg hbad] at HG
    have HBAD := Aside0.mk hbad
    clear hbad DZ
    obtain ⟨c0, c1, c2, c3, c4, c5, c6, c7, c8⟩ := D3.out.bx.cells
    obtain ⟨z0, z1, z2, z3, z4, z5, z6, z7, z8⟩ := D3.out.frozen
    have cp := D3.out.cell
    by_cases hf1 : f1 = 0
    · have hk13 : 1 ≤ k ∧ k ≤ 3 := by have := HBAD.out; omega
      have hk1 := hk13.1
      have hk3 := hk13.2
      clear hk13
      subst hf1
      go_wp2_with fail
      clear c0 c1 c2 c3 c4 c5 c6 c7 c8 z0 z1 z2 z3 z4 z5 z6 z7 z8 cp
      have CX := Aside0.mk (RK.one' D3.out)
      have CR := rUint1_range _ D3.out.rk.byt
      generalize rUint (l1, 0) 1 = T at *
      obtain ⟨sym, s2⟩ := T
      try dsimp only at *
      have symr := Aside0.mk CR
      clear CR
      refine CX.out.mono ?_
      rintro e w4 ⟨rfl, hd⟩
      have Dw4 := Aside0.mk hd
      clear hd CX
      have D5 := Aside0.mk (Dw4.out.set1 sym)
      obtain ⟨c0, c1, c2, c3, c4, c5, c6, c7, c8⟩ := Dw4.out.bx.cells
      obtain ⟨z0, z1, z2, z3, z4, z5, z6, z7, z8⟩ := Dw4.out.frozen
      have cp := Dw4.out.cell
      obtain ⟨e0, e1, e2, e3, e4, e5, e6, e7, e8⟩ := D5.out.bx.cells
      have ep := D5.out.cell
      go_wp2_with fail
      clear e0 e1 e2 e3 e4 e5 e6 e7 e8 ep
      clear c0 c1 c2 c3 c4 c5 c6 c7 c8 z0 z1 z2 z3 z4 z5 z6 z7 z8 cp
      generalize (w4.setCell ⟨w.heap.size, 1, none⟩ (.int .i64 sym)) = w5 at *
      have CX := Aside0.mk (D5.out.num)
      have CR := rNum_range _ D5.out.rk.byt
      generalize rNum s2 = T at *
      obtain ⟨id, s3⟩ := T
      try dsimp only at *
      have idr := Aside0.mk CR
      clear CR
      refine CX.out.mono ?_
      rintro e w6 ⟨rfl, hd⟩
      have Dw6 := Aside0.mk hd
      clear hd CX
      by_cases h1 : k = 1
      · subst h1
        rw [if_pos rfl] at HG
        clear k0 k1 kr HBAD
        obtain ⟨c0, c1, c2, c3, c4, c5, c6, c7, c8⟩ := Dw6.out.bx.cells
        obtain ⟨z0, z1, z2, z3, z4, z5, z6, z7, z8⟩ := Dw6.out.frozen
        have cp := Dw6.out.cell
        go_wp2_with fail
        clear c0 c1 c2 c3 c4 c5 c6 c7 c8 z0 z1 z2 z3 z4 z5 z6 z7 z8 cp
        have CX := Aside0.mk (Dw6.out.num)
        have CR := rNum_range _ Dw6.out.rk.byt
        generalize rNum s3 = T at *
        obtain ⟨ow, s4⟩ := T
        try dsimp only at *
        have owr := Aside0.mk CR
        clear CR
        refine CX.out.mono ?_
        rintro e w7 ⟨rfl, hd⟩
        have Dw7 := Aside0.mk hd
        clear hd CX
        obtain ⟨c0, c1, c2, c3, c4, c5, c6, c7, c8⟩ := Dw7.out.bx.cells
        obtain ⟨z0, z1, z2, z3, z4, z5, z6, z7, z8⟩ := Dw7.out.frozen
        have cp := Dw7.out.cell
        go_wp2_with fail
        clear c0 c1 c2 c3 c4 c5 c6 c7 c8 z0 z1 z2 z3 z4 z5 z6 z7 z8 cp
        have CX := Aside0.mk (RK.one' Dw7.out)
        have CR := rUint1_range _ Dw7.out.rk.byt
        generalize rUint s4 1 = T at *
        obtain ⟨sd, s5⟩ := T
        try dsimp only at *
        have sdr := Aside0.mk CR
        clear CR
        refine CX.out.mono ?_
        rintro e w8 ⟨rfl, hd⟩
        have Dw8 := Aside0.mk hd
        clear hd CX
        obtain ⟨c0, c1, c2, c3, c4, c5, c6, c7, c8⟩ := Dw8.out.bx.cells
        obtain ⟨z0, z1, z2, z3, z4, z5, z6, z7, z8⟩ := Dw8.out.frozen
        have cp := Dw8.out.cell
        go_wp2_with fail
        clear c0 c1 c2 c3 c4 c5 c6 c7 c8 z0 z1 z2 z3 z4 z5 z6 z7 z8 cp
        have CX := Aside0.mk (RK.one' Dw8.out)
        have CR := rUint1_range _ Dw8.out.rk.byt
        generalize rUint s5 1 = T at *
        obtain ⟨ty, s6⟩ := T
        try dsimp only at *
        have tyr := Aside0.mk CR
        clear CR
        refine CX.out.mono ?_
        rintro e w9 ⟨rfl, hd⟩
        have Dw9 := Aside0.mk hd
        clear hd CX
        obtain ⟨c0, c1, c2, c3, c4, c5, c6, c7, c8⟩ := Dw9.out.bx.cells
        obtain ⟨z0, z1, z2, z3, z4, z5, z6, z7, z8⟩ := Dw9.out.frozen
        have cp := Dw9.out.cell
        go_wp2_with fail
        clear c0 c1 c2 c3 c4 c5 c6 c7 c8 z0 z1 z2 z3 z4 z5 z6 z7 z8 cp
        have CX := Aside0.mk (RK.one' Dw9.out)
        have CR := rUint1_range _ Dw9.out.rk.byt
        generalize rUint s6 1 = T at *
        obtain ⟨fl, s7⟩ := T
        try dsimp only at *
        have flr := Aside0.mk CR
        clear CR
        refine CX.out.mono ?_
        rintro e w10 ⟨rfl, hd⟩
        have Dw10 := Aside0.mk hd
        clear hd CX
        have DA := Aside0.mk (((Dw10.out.set4 sd).set5 ty).set8 fl)
        obtain ⟨c0, c1, c2, c3, c4, c5, c6, c7, c8⟩ := Dw10.out.bx.cells
        obtain ⟨z0, z1, z2, z3, z4, z5, z6, z7, z8⟩ := Dw10.out.frozen
        have cp := Dw10.out.cell
        obtain ⟨e0, e1, e2, e3, e4, e5, e6, e7, e8⟩ := DA.out.bx.cells
        have ep := DA.out.cell
        unfold cmdMid at HG
        rw [if_neg (by decide)] at HG
        go_wp2_with fail
        clear e0 e1 e2 e3 e4 e5 e6 e7 e8 ep
        clear c0 c1 c2 c3 c4 c5 c6 c7 c8 z0 z1 z2 z3 z4 z5 z6 z7 z8 cp
        generalize (((w10.setCell ⟨w.heap.size, 4, none⟩ (.int .i64 sd)).setCell ⟨w.heap.size, 5, none⟩ (.int .i64 ty)).setCell ⟨w.heap.size, 8, none⟩ (.int .i64 fl)) = w11 at *
        have CX := Aside0.mk (DA.out.int)
        have CR := rUint_range _ 8 DA.out.rk.byt
        generalize rUint s7 8 = T at *
        obtain ⟨pr, s8⟩ := T
        try dsimp only at *
        have prr := Aside0.mk CR
        clear CR
        refine CX.out.mono ?_
        rintro e w12 ⟨rfl, hd⟩
        have Dw12 := Aside0.mk hd
        clear hd CX
        obtain ⟨c0, c1, c2, c3, c4, c5, c6, c7, c8⟩ := Dw12.out.bx.cells
        obtain ⟨z0, z1, z2, z3, z4, z5, z6, z7, z8⟩ := Dw12.out.frozen
        have cp := Dw12.out.cell
        go_wp2_with fail
        clear c0 c1 c2 c3 c4 c5 c6 c7 c8 z0 z1 z2 z3 z4 z5 z6 z7 z8 cp
        have CX := Aside0.mk (Dw12.out.int)
        have CR := rUint_range _ 8 Dw12.out.rk.byt
        generalize rUint s8 8 = T at *
        obtain ⟨qt, s9⟩ := T
        try dsimp only at *
        have qtr := Aside0.mk CR
        clear CR
        refine CX.out.mono ?_
        rintro e w13 ⟨rfl, hd⟩
        have Dw13 := Aside0.mk hd
        clear hd CX
        generalize unzig pr = pz at *
        generalize unzig qt = qz at *
        have DB := Aside0.mk ((Dw13.out.set6 pz).set7 qz)
        obtain ⟨c0, c1, c2, c3, c4, c5, c6, c7, c8⟩ := Dw13.out.bx.cells
        obtain ⟨z0, z1, z2, z3, z4, z5, z6, z7, z8⟩ := Dw13.out.frozen
        have cp := Dw13.out.cell
        obtain ⟨e0, e1, e2, e3, e4, e5, e6, e7, e8⟩ := DB.out.bx.cells
        have ep := DB.out.cell
        have FY := Aside0.mk DB.out.rk.fault
        obtain ⟨ls, fs⟩ := s9
        try dsimp only at *
        go_wp2_with fail
        clear e0 e1 e2 e3 e4 e5 e6 e7 e8 ep
        clear c0 c1 c2 c3 c4 c5 c6 c7 c8 z0 z1 z2 z3 z4 z5 z6 z7 z8 cp
        generalize ((w13.setCell ⟨w.heap.size, 6, none⟩ (.int .i64 pz)).setCell ⟨w.heap.size, 7, none⟩ (.int .i64 qz)) = wB at *
        try dsimp only at FY
        obtain ⟨c0, c1, c2, c3, c4, c5, c6, c7, c8⟩ := DB.out.bx.cells
        obtain ⟨z0, z1, z2, z3, z4, z5, z6, z7, z8⟩ := DB.out.frozen
        have cp := DB.out.cell
        refine FY.out.mono ?_
        rintro e wf ⟨rfl, rfl⟩
        dsimp only
        unfold cmdFin at HG
        try dsimp only at HG
        by_cases hf : fs = 0
        · subst hf
          rw [if_neg (by decide)] at HG
          obtain ⟨m1, hm1⟩ : ∃ m, (if 4611686018427387905 < id then 4611686018427387905 else id) = m := ⟨_, rfl⟩
          obtain ⟨m2, hm2⟩ : ∃ m, (if 1073741825 < ow then 1073741825 else ow) = m := ⟨_, rfl⟩
          have HM2 := Aside0.mk (show mn ow 1073741825 = m2 from hm2)
          have HM1 := Aside0.mk (show mn id 4611686018427387905 = m1 from hm1)
          have hb1 : 0 ≤ m1 ∧ m1 ≤ 4611686018427387905 := by have := idr.out; rw [← hm1]; split <;> omega
          have hb2 : 0 ≤ m2 ∧ m2 ≤ 1073741825 := by have := owr.out; rw [← hm2]; split <;> omega
          have hb21 := hb2.1
          have hb22 := hb2.2
          clear hb2
          have hb11 := hb1.1
          have hb12 := hb1.2
          clear hb1
          rw [HM1.out, HM2.out] at HG
          have DN := Aside0.mk ((DB.out.set2 m1).set3 m2)
          have LX := Aside0.mk DN.out.rk.left
          dsimp only at LX
          clear c0 c1 c2 c3 c4 c5 c6 c7 c8 z0 z1 z2 z3 z4 z5 z6 z7 z8 cp
          obtain ⟨c0, c1, c2, c3, c4, c5, c6, c7, c8⟩ := DB.out.bx.cells
          obtain ⟨z0, z1, z2, z3, z4, z5, z6, z7, z8⟩ := DB.out.frozen
          have cp := DB.out.cell
          obtain ⟨d0, d1, d2, d3, d4, d5, d6, d7, d8⟩ := DN.out.bx.cells
          have dp := DN.out.cell
          go_wp2_with fail
          clear hm1 hm2
          refine LX.out.mono ?_
          rintro e wg ⟨rfl, rfl⟩
          dsimp only
          obtain ⟨lm, hlm⟩ : ∃ m : Int, (ls.length : Int) = m := ⟨_, rfl⟩
          rw [hlm]
          have HLM := Aside0.mk hlm
          clear hlm
          clear d0 d1 d2 d3 d4 d5 d6 d7 d8 dp
          clear c0 c1 c2 c3 c4 c5 c6 c7 c8 z0 z1 z2 z3 z4 z5 z6 z7 z8 cp
          generalize ((wB.setCell ⟨w.heap.size, 2, none⟩ (.int .i64 m1)).setCell ⟨w.heap.size, 3, none⟩ (.int .i64 m2)) = wn at *
          have RX := Aside0.mk (cmdRight_calls 1 sym m1 m2 sd ty pz qz fl wn)
          have DZ := Aside0.mk (((((((((DN.out.set0 0).set1 0).set2 0).set3 0).set4 0).set5 0).set6 0).set7 0).set8 0)
          obtain ⟨c0, c1, c2, c3, c4, c5, c6, c7, c8⟩ := DN.out.bx.cells
          obtain ⟨z0, z1, z2, z3, z4, z5, z6, z7, z8⟩ := DN.out.frozen
          have cp := DN.out.cell
          by_cases hl : 0 < lm
          · rw [if_pos (.inl (by have := HLM.out; omega))] at HG
            have hll : decide (0 < lm) = true := by simpa using hl
            obtain rfl := HG.out
            go_wp2
            exact bodyPost_ret (results_ct (fn := Try.f72) (p := 2) (u := 3) (ty := 95) rfl _ _ w.heap.size 95 #[.int .i64 0, .int .i64 0, .int .i64 0, .int .i64 0, .int .i64 0, .int .i64 0, .int .i64 0, .int .i64 0, .int .i64 0] (0, 0) _ rfl DZ.out.bx Try.underlying95 rfl (by kernel_rfl)) rfl ⟨rfl, DZ.out.rk.bel⟩
          · have hll : decide (0 < lm) = false := by simpa using hl
            have HLN : Aside0 (¬ 0 < ls.length) := ⟨by have := HLM.out; omega⟩
            clear hl
            go_wp2_with fail
            refine RX.out.mono ?_
            rintro e wr ⟨rfl, hbr⟩
            have DR := Aside0.mk (DN.out.below (Below.mono hbr (Nat.le_refl _)))
            have DY := Aside0.mk (((((((((DR.out.set0 0).set1 0).set2 0).set3 0).set4 0).set5 0).set6 0).set7 0).set8 0)
            have DW := Aside0.mk (((((((((DR.out.set0 (1)).set1 (sym)).set2 (m1)).set3 (m2)).set4 (sd)).set5 (ty)).set6 (pz)).set7 (qz)).set8 (fl))
            clear hbr
            clear c0 c1 c2 c3 c4 c5 c6 c7 c8 z0 z1 z2 z3 z4 z5 z6 z7 z8 cp
            obtain ⟨c0, c1, c2, c3, c4, c5, c6, c7, c8⟩ := DR.out.bx.cells
            obtain ⟨z0, z1, z2, z3, z4, z5, z6, z7, z8⟩ := DR.out.frozen
            have cp := DR.out.cell
            cases hr : cmdRight ⟨1, sym, m1, m2, sd, ty, pz, qz, fl⟩ with
            | false =>
              rw [if_pos (.inr hr)] at HG
              obtain rfl := HG.out
              go_wp2
              exact bodyPost_ret (results_ct (fn := Try.f72) (p := 2) (u := 3) (ty := 95) rfl _ _ w.heap.size 95 #[.int .i64 0, .int .i64 0, .int .i64 0, .int .i64 0, .int .i64 0, .int .i64 0, .int .i64 0, .int .i64 0, .int .i64 0] (0, 0) _ rfl DY.out.bx Try.underlying95 rfl (by kernel_rfl)) rfl ⟨rfl, DY.out.rk.bel⟩
            | true =>
              rw [if_neg (by intro h; rcases h with h | h; exact HLN.out h; rw [hr] at h; cases h)] at HG
              obtain rfl := HG.out
              go_wp2
              exact bodyPost_ret (results_ct (fn := Try.f72) (p := 2) (u := 3) (ty := 95) rfl _ _ w.heap.size 95 #[.int .i64 1, .int .i64 sym, .int .i64 m1, .int .i64 m2, .int .i64 sd, .int .i64 ty, .int .i64 pz, .int .i64 qz, .int .i64 fl] (0, 0) _ rfl DW.out.bx Try.underlying95 rfl (by kernel_rfl)) rfl ⟨rfl, DW.out.rk.bel⟩
        · rw [if_pos (by simpa using hf)] at HG
          have hff : (fs != 0) = true := by simpa using hf
          clear hf
          have DZ := Aside0.mk (((((((((DB.out.set0 0).set1 0).set2 0).set3 0).set4 0).set5 0).set6 0).set7 0).set8 0)
          obtain rfl := HG.out
          go_wp2
          exact bodyPost_ret (results_ct (fn := Try.f72) (p := 2) (u := 3) (ty := 95) rfl _ _ w.heap.size 95 #[.int .i64 0, .int .i64 0, .int .i64 0, .int .i64 0, .int .i64 0, .int .i64 0, .int .i64 0, .int .i64 0, .int .i64 0] (0, 0) _ rfl DZ.out.bx Try.underlying95 rfl (by kernel_rfl)) rfl ⟨rfl, DZ.out.rk.bel⟩
      · rw [if_neg h1] at HG
        have H1 := Aside0.mk h1
        have h1b : (k == 1) = false := by simpa using h1
        clear h1
        unfold cmdMid at HG
        by_cases h2 : k = 2
        · subst h2
          rw [if_pos rfl] at HG
          clear h1b
          obtain ⟨ls, fs⟩ := s3
          have FX := Aside0.mk Dw6.out.rk.fault
          try dsimp only at *
          obtain ⟨c0, c1, c2, c3, c4, c5, c6, c7, c8⟩ := Dw6.out.bx.cells
          obtain ⟨z0, z1, z2, z3, z4, z5, z6, z7, z8⟩ := Dw6.out.frozen
          have cp := Dw6.out.cell
          go_wp2_with fail
          refine FX.out.mono ?_
          rintro e wf ⟨rfl, rfl⟩
          dsimp only
          unfold cmdFin at HG
          try dsimp only at HG
          by_cases hf : fs = 0
          · subst hf
            rw [if_neg (by decide)] at HG
            obtain ⟨m1, hm1⟩ : ∃ m, (if 4611686018427387905 < id then 4611686018427387905 else id) = m := ⟨_, rfl⟩
            have HM2 : Aside0 (mn 0 1073741825 = 0) := ⟨by decide⟩
            have HM1 := Aside0.mk (show mn id 4611686018427387905 = m1 from hm1)
            have hb1 : 0 ≤ m1 ∧ m1 ≤ 4611686018427387905 := by have := idr.out; rw [← hm1]; split <;> omega
            have hb11 := hb1.1
            have hb12 := hb1.2
            clear hb1
            rw [HM1.out, HM2.out] at HG
            have DN := Aside0.mk ((Dw6.out.set2 m1).set3 0)
            have LX := Aside0.mk DN.out.rk.left
            dsimp only at LX
            clear c0 c1 c2 c3 c4 c5 c6 c7 c8 z0 z1 z2 z3 z4 z5 z6 z7 z8 cp
            obtain ⟨c0, c1, c2, c3, c4, c5, c6, c7, c8⟩ := Dw6.out.bx.cells
            obtain ⟨z0, z1, z2, z3, z4, z5, z6, z7, z8⟩ := Dw6.out.frozen
            have cp := Dw6.out.cell
            obtain ⟨d0, d1, d2, d3, d4, d5, d6, d7, d8⟩ := DN.out.bx.cells
            have dp := DN.out.cell
            go_wp2_with fail
            clear hm1
            refine LX.out.mono ?_
            rintro e wg ⟨rfl, rfl⟩
            dsimp only
            obtain ⟨lm, hlm⟩ : ∃ m : Int, (ls.length : Int) = m := ⟨_, rfl⟩
            rw [hlm]
            have HLM := Aside0.mk hlm
            clear hlm
            clear d0 d1 d2 d3 d4 d5 d6 d7 d8 dp
            clear c0 c1 c2 c3 c4 c5 c6 c7 c8 z0 z1 z2 z3 z4 z5 z6 z7 z8 cp
            generalize ((w6.setCell ⟨w.heap.size, 2, none⟩ (.int .i64 m1)).setCell ⟨w.heap.size, 3, none⟩ (.int .i64 0)) = wn at *
            have RX := Aside0.mk (cmdRight_calls 2 sym m1 0 0 0 0 0 0 wn)
            have DZ := Aside0.mk (((((((((DN.out.set0 0).set1 0).set2 0).set3 0).set4 0).set5 0).set6 0).set7 0).set8 0)
            obtain ⟨c0, c1, c2, c3, c4, c5, c6, c7, c8⟩ := DN.out.bx.cells
            obtain ⟨z0, z1, z2, z3, z4, z5, z6, z7, z8⟩ := DN.out.frozen
            have cp := DN.out.cell
            by_cases hl : 0 < lm
            · rw [if_pos (.inl (by have := HLM.out; omega))] at HG
              have hll : decide (0 < lm) = true := by simpa using hl
              obtain rfl := HG.out
              go_wp2
              exact bodyPost_ret (results_ct (fn := Try.f72) (p := 2) (u := 3) (ty := 95) rfl _ _ w.heap.size 95 #[.int .i64 0, .int .i64 0, .int .i64 0, .int .i64 0, .int .i64 0, .int .i64 0, .int .i64 0, .int .i64 0, .int .i64 0] (0, 0) _ rfl DZ.out.bx Try.underlying95 rfl (by kernel_rfl)) rfl ⟨rfl, DZ.out.rk.bel⟩
            · have hll : decide (0 < lm) = false := by simpa using hl
              have HLN : Aside0 (¬ 0 < ls.length) := ⟨by have := HLM.out; omega⟩
              clear hl
              go_wp2_with fail
              refine RX.out.mono ?_
              rintro e wr ⟨rfl, hbr⟩
              have DR := Aside0.mk (DN.out.below (Below.mono hbr (Nat.le_refl _)))
              have DY := Aside0.mk (((((((((DR.out.set0 0).set1 0).set2 0).set3 0).set4 0).set5 0).set6 0).set7 0).set8 0)
              have DW := Aside0.mk (((((((((DR.out.set0 (2)).set1 (sym)).set2 (m1)).set3 (0)).set4 (0)).set5 (0)).set6 (0)).set7 (0)).set8 (0))
              clear hbr
              clear c0 c1 c2 c3 c4 c5 c6 c7 c8 z0 z1 z2 z3 z4 z5 z6 z7 z8 cp
              obtain ⟨c0, c1, c2, c3, c4, c5, c6, c7, c8⟩ := DR.out.bx.cells
              obtain ⟨z0, z1, z2, z3, z4, z5, z6, z7, z8⟩ := DR.out.frozen
              have cp := DR.out.cell
              cases hr : cmdRight ⟨2, sym, m1, 0, 0, 0, 0, 0, 0⟩ with
              | false =>
                rw [if_pos (.inr hr)] at HG
                obtain rfl := HG.out
                go_wp2
                exact bodyPost_ret (results_ct (fn := Try.f72) (p := 2) (u := 3) (ty := 95) rfl _ _ w.heap.size 95 #[.int .i64 0, .int .i64 0, .int .i64 0, .int .i64 0, .int .i64 0, .int .i64 0, .int .i64 0, .int .i64 0, .int .i64 0] (0, 0) _ rfl DY.out.bx Try.underlying95 rfl (by kernel_rfl)) rfl ⟨rfl, DY.out.rk.bel⟩
              | true =>
                rw [if_neg (by intro h; rcases h with h | h; exact HLN.out h; rw [hr] at h; cases h)] at HG
                obtain rfl := HG.out
                go_wp2
                exact bodyPost_ret (results_ct (fn := Try.f72) (p := 2) (u := 3) (ty := 95) rfl _ _ w.heap.size 95 #[.int .i64 2, .int .i64 sym, .int .i64 m1, .int .i64 0, .int .i64 0, .int .i64 0, .int .i64 0, .int .i64 0, .int .i64 0] (0, 0) _ rfl DW.out.bx Try.underlying95 rfl (by kernel_rfl)) rfl ⟨rfl, DW.out.rk.bel⟩
          · rw [if_pos (by simpa using hf)] at HG
            have hff : (fs != 0) = true := by simpa using hf
            clear hf
            have DZ := Aside0.mk (((((((((Dw6.out.set0 0).set1 0).set2 0).set3 0).set4 0).set5 0).set6 0).set7 0).set8 0)
            obtain rfl := HG.out
            go_wp2
            exact bodyPost_ret (results_ct (fn := Try.f72) (p := 2) (u := 3) (ty := 95) rfl _ _ w.heap.size 95 #[.int .i64 0, .int .i64 0, .int .i64 0, .int .i64 0, .int .i64 0, .int .i64 0, .int .i64 0, .int .i64 0, .int .i64 0] (0, 0) _ rfl DZ.out.bx Try.underlying95 rfl (by kernel_rfl)) rfl ⟨rfl, DZ.out.rk.bel⟩
        · rw [if_neg h2] at HG
          have H2 := Aside0.mk h2
          have h2b : (k != 2) = true := by simpa using h2
          clear h2
          obtain ⟨c0, c1, c2, c3, c4, c5, c6, c7, c8⟩ := Dw6.out.bx.cells
          obtain ⟨z0, z1, z2, z3, z4, z5, z6, z7, z8⟩ := Dw6.out.frozen
          have cp := Dw6.out.cell
          go_wp2_with fail
          clear c0 c1 c2 c3 c4 c5 c6 c7 c8 z0 z1 z2 z3 z4 z5 z6 z7 z8 cp
          have CX := Aside0.mk (Dw6.out.int)
          have CR := rUint_range _ 8 Dw6.out.rk.byt
          generalize rUint s3 8 = T at *
          obtain ⟨pr, s8⟩ := T
          try dsimp only at *
          have prr := Aside0.mk CR
          clear CR
          refine CX.out.mono ?_
          rintro e w12 ⟨rfl, hd⟩
          have Dw12 := Aside0.mk hd
          clear hd CX
          obtain ⟨c0, c1, c2, c3, c4, c5, c6, c7, c8⟩ := Dw12.out.bx.cells
          obtain ⟨z0, z1, z2, z3, z4, z5, z6, z7, z8⟩ := Dw12.out.frozen
          have cp := Dw12.out.cell
          go_wp2_with fail
          clear c0 c1 c2 c3 c4 c5 c6 c7 c8 z0 z1 z2 z3 z4 z5 z6 z7 z8 cp
          have CX := Aside0.mk (Dw12.out.int)
          have CR := rUint_range _ 8 Dw12.out.rk.byt
          generalize rUint s8 8 = T at *
          obtain ⟨qt, s9⟩ := T
          try dsimp only at *
          have qtr := Aside0.mk CR
          clear CR
          refine CX.out.mono ?_
          rintro e w13 ⟨rfl, hd⟩
          have Dw13 := Aside0.mk hd
          clear hd CX
          generalize unzig pr = pz at *
          generalize unzig qt = qz at *
          have DB := Aside0.mk ((Dw13.out.set6 pz).set7 qz)
          obtain ⟨c0, c1, c2, c3, c4, c5, c6, c7, c8⟩ := Dw13.out.bx.cells
          obtain ⟨z0, z1, z2, z3, z4, z5, z6, z7, z8⟩ := Dw13.out.frozen
          have cp := Dw13.out.cell
          obtain ⟨e0, e1, e2, e3, e4, e5, e6, e7, e8⟩ := DB.out.bx.cells
          have ep := DB.out.cell
          have FY := Aside0.mk DB.out.rk.fault
          obtain ⟨ls, fs⟩ := s9
          try dsimp only at *
          go_wp2_with fail
          clear e0 e1 e2 e3 e4 e5 e6 e7 e8 ep
          clear c0 c1 c2 c3 c4 c5 c6 c7 c8 z0 z1 z2 z3 z4 z5 z6 z7 z8 cp
          generalize ((w13.setCell ⟨w.heap.size, 6, none⟩ (.int .i64 pz)).setCell ⟨w.heap.size, 7, none⟩ (.int .i64 qz)) = wB at *
          try dsimp only at FY
          obtain ⟨c0, c1, c2, c3, c4, c5, c6, c7, c8⟩ := DB.out.bx.cells
          obtain ⟨z0, z1, z2, z3, z4, z5, z6, z7, z8⟩ := DB.out.frozen
          have cp := DB.out.cell
          refine FY.out.mono ?_
          rintro e wf ⟨rfl, rfl⟩
          dsimp only
          unfold cmdFin at HG
          try dsimp only at HG
          by_cases hf : fs = 0
          · subst hf
            rw [if_neg (by decide)] at HG
            obtain ⟨m1, hm1⟩ : ∃ m, (if 4611686018427387905 < id then 4611686018427387905 else id) = m := ⟨_, rfl⟩
            have HM2 : Aside0 (mn 0 1073741825 = 0) := ⟨by decide⟩
            have HM1 := Aside0.mk (show mn id 4611686018427387905 = m1 from hm1)
            have hb1 : 0 ≤ m1 ∧ m1 ≤ 4611686018427387905 := by have := idr.out; rw [← hm1]; split <;> omega
            have hb11 := hb1.1
            have hb12 := hb1.2
            clear hb1
            rw [HM1.out, HM2.out] at HG
            have DN := Aside0.mk ((DB.out.set2 m1).set3 0)
            have LX := Aside0.mk DN.out.rk.left
            dsimp only at LX
            clear c0 c1 c2 c3 c4 c5 c6 c7 c8 z0 z1 z2 z3 z4 z5 z6 z7 z8 cp
            obtain ⟨c0, c1, c2, c3, c4, c5, c6, c7, c8⟩ := DB.out.bx.cells
            obtain ⟨z0, z1, z2, z3, z4, z5, z6, z7, z8⟩ := DB.out.frozen
            have cp := DB.out.cell
            obtain ⟨d0, d1, d2, d3, d4, d5, d6, d7, d8⟩ := DN.out.bx.cells
            have dp := DN.out.cell
            go_wp2_with fail
            clear hm1
            refine LX.out.mono ?_
            rintro e wg ⟨rfl, rfl⟩
            dsimp only
            obtain ⟨lm, hlm⟩ : ∃ m : Int, (ls.length : Int) = m := ⟨_, rfl⟩
            rw [hlm]
            have HLM := Aside0.mk hlm
            clear hlm
            clear d0 d1 d2 d3 d4 d5 d6 d7 d8 dp
            clear c0 c1 c2 c3 c4 c5 c6 c7 c8 z0 z1 z2 z3 z4 z5 z6 z7 z8 cp
            generalize ((wB.setCell ⟨w.heap.size, 2, none⟩ (.int .i64 m1)).setCell ⟨w.heap.size, 3, none⟩ (.int .i64 0)) = wn at *
            have RX := Aside0.mk (cmdRight_calls k sym m1 0 0 0 pz qz 0 wn)
            have DZ := Aside0.mk (((((((((DN.out.set0 0).set1 0).set2 0).set3 0).set4 0).set5 0).set6 0).set7 0).set8 0)
            obtain ⟨c0, c1, c2, c3, c4, c5, c6, c7, c8⟩ := DN.out.bx.cells
            obtain ⟨z0, z1, z2, z3, z4, z5, z6, z7, z8⟩ := DN.out.frozen
            have cp := DN.out.cell
            by_cases hl : 0 < lm
            · rw [if_pos (.inl (by have := HLM.out; omega))] at HG
              have hll : decide (0 < lm) = true := by simpa using hl
              obtain rfl := HG.out
              go_wp2
              exact bodyPost_ret (results_ct (fn := Try.f72) (p := 2) (u := 3) (ty := 95) rfl _ _ w.heap.size 95 #[.int .i64 0, .int .i64 0, .int .i64 0, .int .i64 0, .int .i64 0, .int .i64 0, .int .i64 0, .int .i64 0, .int .i64 0] (0, 0) _ rfl DZ.out.bx Try.underlying95 rfl (by kernel_rfl)) rfl ⟨rfl, DZ.out.rk.bel⟩
            · have hll : decide (0 < lm) = false := by simpa using hl
              have HLN : Aside0 (¬ 0 < ls.length) := ⟨by have := HLM.out; omega⟩
              clear hl
              go_wp2_with fail
              refine RX.out.mono ?_
              rintro e wr ⟨rfl, hbr⟩
              have DR := Aside0.mk (DN.out.below (Below.mono hbr (Nat.le_refl _)))
              have DY := Aside0.mk (((((((((DR.out.set0 0).set1 0).set2 0).set3 0).set4 0).set5 0).set6 0).set7 0).set8 0)
              have DW := Aside0.mk (((((((((DR.out.set0 (k)).set1 (sym)).set2 (m1)).set3 (0)).set4 (0)).set5 (0)).set6 (pz)).set7 (qz)).set8 (0))
              clear hbr
              clear c0 c1 c2 c3 c4 c5 c6 c7 c8 z0 z1 z2 z3 z4 z5 z6 z7 z8 cp
              obtain ⟨c0, c1, c2, c3, c4, c5, c6, c7, c8⟩ := DR.out.bx.cells
              obtain ⟨z0, z1, z2, z3, z4, z5, z6, z7, z8⟩ := DR.out.frozen
              have cp := DR.out.cell
              cases hr : cmdRight ⟨k, sym, m1, 0, 0, 0, pz, qz, 0⟩ with
              | false =>
                rw [if_pos (.inr hr)] at HG
                obtain rfl := HG.out
                go_wp2
                exact bodyPost_ret (results_ct (fn := Try.f72) (p := 2) (u := 3) (ty := 95) rfl _ _ w.heap.size 95 #[.int .i64 0, .int .i64 0, .int .i64 0, .int .i64 0, .int .i64 0, .int .i64 0, .int .i64 0, .int .i64 0, .int .i64 0] (0, 0) _ rfl DY.out.bx Try.underlying95 rfl (by kernel_rfl)) rfl ⟨rfl, DY.out.rk.bel⟩
              | true =>
                rw [if_neg (by intro h; rcases h with h | h; exact HLN.out h; rw [hr] at h; cases h)] at HG
                obtain rfl := HG.out
                go_wp2
                exact bodyPost_ret (results_ct (fn := Try.f72) (p := 2) (u := 3) (ty := 95) rfl _ _ w.heap.size 95 #[.int .i64 k, .int .i64 sym, .int .i64 m1, .int .i64 0, .int .i64 0, .int .i64 0, .int .i64 pz, .int .i64 qz, .int .i64 0] (0, 0) _ rfl DW.out.bx Try.underlying95 rfl (by kernel_rfl)) rfl ⟨rfl, DW.out.rk.bel⟩
          · rw [if_pos (by simpa using hf)] at HG
            have hff : (fs != 0) = true := by simpa using hf
            clear hf
            have DZ := Aside0.mk (((((((((DB.out.set0 0).set1 0).set2 0).set3 0).set4 0).set5 0).set6 0).set7 0).set8 0)
            obtain rfl := HG.out
            go_wp2
            exact bodyPost_ret (results_ct (fn := Try.f72) (p := 2) (u := 3) (ty := 95) rfl _ _ w.heap.size 95 #[.int .i64 0, .int .i64 0, .int .i64 0, .int .i64 0, .int .i64 0, .int .i64 0, .int .i64 0, .int .i64 0, .int .i64 0] (0, 0) _ rfl DZ.out.bx Try.underlying95 rfl (by kernel_rfl)) rfl ⟨rfl, DZ.out.rk.bel⟩
    · have hf1b : (f1 == 0) = false := by simpa using hf1
      clear hf1
      go_wp2_with fail
      clear c0 c1 c2 c3 c4 c5 c6 c7 c8 z0 z1 z2 z3 z4 z5 z6 z7 z8 cp
      have CX := Aside0.mk (RK.one' D3.out)
      have CR := rUint1_range _ D3.out.rk.byt
      generalize rUint (l1, f1) 1 = T at *
      obtain ⟨sym, s2⟩ := T
      try dsimp only at *
      have symr := Aside0.mk CR
      clear CR
      refine CX.out.mono ?_
      rintro e w4 ⟨rfl, hd⟩
      have Dw4 := Aside0.mk hd
      clear hd CX
      have D5 := Aside0.mk (Dw4.out.set1 sym)
      obtain ⟨c0, c1, c2, c3, c4, c5, c6, c7, c8⟩ := Dw4.out.bx.cells
      obtain ⟨z0, z1, z2, z3, z4, z5, z6, z7, z8⟩ := Dw4.out.frozen
      have cp := Dw4.out.cell
      obtain ⟨e0, e1, e2, e3, e4, e5, e6, e7, e8⟩ := D5.out.bx.cells
      have ep := D5.out.cell
      go_wp2_with fail
      clear e0 e1 e2 e3 e4 e5 e6 e7 e8 ep
      clear c0 c1 c2 c3 c4 c5 c6 c7 c8 z0 z1 z2 z3 z4 z5 z6 z7 z8 cp
      generalize (w4.setCell ⟨w.heap.size, 1, none⟩ (.int .i64 sym)) = w5 at *
      have CX := Aside0.mk (D5.out.num)
      have CR := rNum_range _ D5.out.rk.byt
      generalize rNum s2 = T at *
      obtain ⟨id, s3⟩ := T
      try dsimp only at *
      have idr := Aside0.mk CR
      clear CR
      refine CX.out.mono ?_
      rintro e w6 ⟨rfl, hd⟩
      have Dw6 := Aside0.mk hd
      clear hd CX
      by_cases h1 : k = 1
      · subst h1
        rw [if_pos rfl] at HG
        clear k0 k1 kr HBAD
        obtain ⟨c0, c1, c2, c3, c4, c5, c6, c7, c8⟩ := Dw6.out.bx.cells
        obtain ⟨z0, z1, z2, z3, z4, z5, z6, z7, z8⟩ := Dw6.out.frozen
        have cp := Dw6.out.cell
        go_wp2_with fail
        clear c0 c1 c2 c3 c4 c5 c6 c7 c8 z0 z1 z2 z3 z4 z5 z6 z7 z8 cp
        have CX := Aside0.mk (Dw6.out.num)
        have CR := rNum_range _ Dw6.out.rk.byt
        generalize rNum s3 = T at *
        obtain ⟨ow, s4⟩ := T
        try dsimp only at *
        have owr := Aside0.mk CR
        clear CR
        refine CX.out.mono ?_
        rintro e w7 ⟨rfl, hd⟩
        have Dw7 := Aside0.mk hd
        clear hd CX
        obtain ⟨c0, c1, c2, c3, c4, c5, c6, c7, c8⟩ := Dw7.out.bx.cells
        obtain ⟨z0, z1, z2, z3, z4, z5, z6, z7, z8⟩ := Dw7.out.frozen
        have cp := Dw7.out.cell
        go_wp2_with fail
        clear c0 c1 c2 c3 c4 c5 c6 c7 c8 z0 z1 z2 z3 z4 z5 z6 z7 z8 cp
        have CX := Aside0.mk (RK.one' Dw7.out)
        have CR := rUint1_range _ Dw7.out.rk.byt
        generalize rUint s4 1 = T at *
        obtain ⟨sd, s5⟩ := T
        try dsimp only at *
        have sdr := Aside0.mk CR
        clear CR
        refine CX.out.mono ?_
        rintro e w8 ⟨rfl, hd⟩
        have Dw8 := Aside0.mk hd
        clear hd CX
        obtain ⟨c0, c1, c2, c3, c4, c5, c6, c7, c8⟩ := Dw8.out.bx.cells
        obtain ⟨z0, z1, z2, z3, z4, z5, z6, z7, z8⟩ := Dw8.out.frozen
        have cp := Dw8.out.cell
        go_wp2_with fail
        clear c0 c1 c2 c3 c4 c5 c6 c7 c8 z0 z1 z2 z3 z4 z5 z6 z7 z8 cp
        have CX := Aside0.mk (RK.one' Dw8.out)
        have CR := rUint1_range _ Dw8.out.rk.byt
        generalize rUint s5 1 = T at *
        obtain ⟨ty, s6⟩ := T
        try dsimp only at *
        have tyr := Aside0.mk CR
        clear CR
        refine CX.out.mono ?_
        rintro e w9 ⟨rfl, hd⟩
        have Dw9 := Aside0.mk hd
        clear hd CX
        obtain ⟨c0, c1, c2, c3, c4, c5, c6, c7, c8⟩ := Dw9.out.bx.cells
        obtain ⟨z0, z1, z2, z3, z4, z5, z6, z7, z8⟩ := Dw9.out.frozen
        have cp := Dw9.out.cell
        go_wp2_with fail
        clear c0 c1 c2 c3 c4 c5 c6 c7 c8 z0 z1 z2 z3 z4 z5 z6 z7 z8 cp
        have CX := Aside0.mk (RK.one' Dw9.out)
        have CR := rUint1_range _ Dw9.out.rk.byt
        generalize rUint s6 1 = T at *
        obtain ⟨fl, s7⟩ := T
        try dsimp only at *
        have flr := Aside0.mk CR
        clear CR
        refine CX.out.mono ?_
        rintro e w10 ⟨rfl, hd⟩
        have Dw10 := Aside0.mk hd
        clear hd CX
        have DA := Aside0.mk (((Dw10.out.set4 sd).set5 ty).set8 fl)
        obtain ⟨c0, c1, c2, c3, c4, c5, c6, c7, c8⟩ := Dw10.out.bx.cells
        obtain ⟨z0, z1, z2, z3, z4, z5, z6, z7, z8⟩ := Dw10.out.frozen
        have cp := Dw10.out.cell
        obtain ⟨e0, e1, e2, e3, e4, e5, e6, e7, e8⟩ := DA.out.bx.cells
        have ep := DA.out.cell
        unfold cmdMid at HG
        rw [if_neg (by decide)] at HG
        go_wp2_with fail
        clear e0 e1 e2 e3 e4 e5 e6 e7 e8 ep
        clear c0 c1 c2 c3 c4 c5 c6 c7 c8 z0 z1 z2 z3 z4 z5 z6 z7 z8 cp
        generalize (((w10.setCell ⟨w.heap.size, 4, none⟩ (.int .i64 sd)).setCell ⟨w.heap.size, 5, none⟩ (.int .i64 ty)).setCell ⟨w.heap.size, 8, none⟩ (.int .i64 fl)) = w11 at *
        have CX := Aside0.mk (DA.out.int)
        have CR := rUint_range _ 8 DA.out.rk.byt
        generalize rUint s7 8 = T at *
        obtain ⟨pr, s8⟩ := T
        try dsimp only at *
        have prr := Aside0.mk CR
        clear CR
        refine CX.out.mono ?_
        rintro e w12 ⟨rfl, hd⟩
        have Dw12 := Aside0.mk hd
        clear hd CX
        obtain ⟨c0, c1, c2, c3, c4, c5, c6, c7, c8⟩ := Dw12.out.bx.cells
        obtain ⟨z0, z1, z2, z3, z4, z5, z6, z7, z8⟩ := Dw12.out.frozen
        have cp := Dw12.out.cell
        go_wp2_with fail
        clear c0 c1 c2 c3 c4 c5 c6 c7 c8 z0 z1 z2 z3 z4 z5 z6 z7 z8 cp
        have CX := Aside0.mk (Dw12.out.int)
        have CR := rUint_range _ 8 Dw12.out.rk.byt
        generalize rUint s8 8 = T at *
        obtain ⟨qt, s9⟩ := T
        try dsimp only at *
        have qtr := Aside0.mk CR
        clear CR
        refine CX.out.mono ?_
        rintro e w13 ⟨rfl, hd⟩
        have Dw13 := Aside0.mk hd
        clear hd CX
        generalize unzig pr = pz at *
        generalize unzig qt = qz at *
        have DB := Aside0.mk ((Dw13.out.set6 pz).set7 qz)
        obtain ⟨c0, c1, c2, c3, c4, c5, c6, c7, c8⟩ := Dw13.out.bx.cells
        obtain ⟨z0, z1, z2, z3, z4, z5, z6, z7, z8⟩ := Dw13.out.frozen
        have cp := Dw13.out.cell
        obtain ⟨e0, e1, e2, e3, e4, e5, e6, e7, e8⟩ := DB.out.bx.cells
        have ep := DB.out.cell
        have FY := Aside0.mk DB.out.rk.fault
        obtain ⟨ls, fs⟩ := s9
        try dsimp only at *
        go_wp2_with fail
        clear e0 e1 e2 e3 e4 e5 e6 e7 e8 ep
        clear c0 c1 c2 c3 c4 c5 c6 c7 c8 z0 z1 z2 z3 z4 z5 z6 z7 z8 cp
        generalize ((w13.setCell ⟨w.heap.size, 6, none⟩ (.int .i64 pz)).setCell ⟨w.heap.size, 7, none⟩ (.int .i64 qz)) = wB at *
        try dsimp only at FY
        obtain ⟨c0, c1, c2, c3, c4, c5, c6, c7, c8⟩ := DB.out.bx.cells
        obtain ⟨z0, z1, z2, z3, z4, z5, z6, z7, z8⟩ := DB.out.frozen
        have cp := DB.out.cell
        refine FY.out.mono ?_
        rintro e wf ⟨rfl, rfl⟩
        dsimp only
        unfold cmdFin at HG
        try dsimp only at HG
        by_cases hf : fs = 0
        · subst hf
          rw [if_neg (by decide)] at HG
          obtain ⟨m1, hm1⟩ : ∃ m, (if 4611686018427387905 < id then 4611686018427387905 else id) = m := ⟨_, rfl⟩
          obtain ⟨m2, hm2⟩ : ∃ m, (if 1073741825 < ow then 1073741825 else ow) = m := ⟨_, rfl⟩
          have HM2 := Aside0.mk (show mn ow 1073741825 = m2 from hm2)
          have HM1 := Aside0.mk (show mn id 4611686018427387905 = m1 from hm1)
          have hb1 : 0 ≤ m1 ∧ m1 ≤ 4611686018427387905 := by have := idr.out; rw [← hm1]; split <;> omega
          have hb2 : 0 ≤ m2 ∧ m2 ≤ 1073741825 := by have := owr.out; rw [← hm2]; split <;> omega
          have hb21 := hb2.1
          have hb22 := hb2.2
          clear hb2
          have hb11 := hb1.1
          have hb12 := hb1.2
          clear hb1
          rw [HM1.out, HM2.out] at HG
          have DN := Aside0.mk ((DB.out.set2 m1).set3 m2)
          have LX := Aside0.mk DN.out.rk.left
          dsimp only at LX
          clear c0 c1 c2 c3 c4 c5 c6 c7 c8 z0 z1 z2 z3 z4 z5 z6 z7 z8 cp
          obtain ⟨c0, c1, c2, c3, c4, c5, c6, c7, c8⟩ := DB.out.bx.cells
          obtain ⟨z0, z1, z2, z3, z4, z5, z6, z7, z8⟩ := DB.out.frozen
          have cp := DB.out.cell
          obtain ⟨d0, d1, d2, d3, d4, d5, d6, d7, d8⟩ := DN.out.bx.cells
          have dp := DN.out.cell
          go_wp2_with fail
          clear hm1 hm2
          refine LX.out.mono ?_
          rintro e wg ⟨rfl, rfl⟩
          dsimp only
          obtain ⟨lm, hlm⟩ : ∃ m : Int, (ls.length : Int) = m := ⟨_, rfl⟩
          rw [hlm]
          have HLM := Aside0.mk hlm
          clear hlm
          clear d0 d1 d2 d3 d4 d5 d6 d7 d8 dp
          clear c0 c1 c2 c3 c4 c5 c6 c7 c8 z0 z1 z2 z3 z4 z5 z6 z7 z8 cp
          generalize ((wB.setCell ⟨w.heap.size, 2, none⟩ (.int .i64 m1)).setCell ⟨w.heap.size, 3, none⟩ (.int .i64 m2)) = wn at *
          have RX := Aside0.mk (cmdRight_calls 1 sym m1 m2 sd ty pz qz fl wn)
          have DZ := Aside0.mk (((((((((DN.out.set0 0).set1 0).set2 0).set3 0).set4 0).set5 0).set6 0).set7 0).set8 0)
          obtain ⟨c0, c1, c2, c3, c4, c5, c6, c7, c8⟩ := DN.out.bx.cells
          obtain ⟨z0, z1, z2, z3, z4, z5, z6, z7, z8⟩ := DN.out.frozen
          have cp := DN.out.cell
          by_cases hl : 0 < lm
          · rw [if_pos (.inl (by have := HLM.out; omega))] at HG
            have hll : decide (0 < lm) = true := by simpa using hl
            obtain rfl := HG.out
            go_wp2
            exact bodyPost_ret (results_ct (fn := Try.f72) (p := 2) (u := 3) (ty := 95) rfl _ _ w.heap.size 95 #[.int .i64 0, .int .i64 0, .int .i64 0, .int .i64 0, .int .i64 0, .int .i64 0, .int .i64 0, .int .i64 0, .int .i64 0] (0, 0) _ rfl DZ.out.bx Try.underlying95 rfl (by kernel_rfl)) rfl ⟨rfl, DZ.out.rk.bel⟩
          · have hll : decide (0 < lm) = false := by simpa using hl
            have HLN : Aside0 (¬ 0 < ls.length) := ⟨by have := HLM.out; omega⟩
            clear hl
            go_wp2_with fail
            refine RX.out.mono ?_
            rintro e wr ⟨rfl, hbr⟩
            have DR := Aside0.mk (DN.out.below (Below.mono hbr (Nat.le_refl _)))
            have DY := Aside0.mk (((((((((DR.out.set0 0).set1 0).set2 0).set3 0).set4 0).set5 0).set6 0).set7 0).set8 0)
            have DW := Aside0.mk (((((((((DR.out.set0 (1)).set1 (sym)).set2 (m1)).set3 (m2)).set4 (sd)).set5 (ty)).set6 (pz)).set7 (qz)).set8 (fl))
            clear hbr
            clear c0 c1 c2 c3 c4 c5 c6 c7 c8 z0 z1 z2 z3 z4 z5 z6 z7 z8 cp
            obtain ⟨c0, c1, c2, c3, c4, c5, c6, c7, c8⟩ := DR.out.bx.cells
            obtain ⟨z0, z1, z2, z3, z4, z5, z6, z7, z8⟩ := DR.out.frozen
            have cp := DR.out.cell
            cases hr : cmdRight ⟨1, sym, m1, m2, sd, ty, pz, qz, fl⟩ with
            | false =>
              rw [if_pos (.inr hr)] at HG
              obtain rfl := HG.out
              go_wp2
              exact bodyPost_ret (results_ct (fn := Try.f72) (p := 2) (u := 3) (ty := 95) rfl _ _ w.heap.size 95 #[.int .i64 0, .int .i64 0, .int .i64 0, .int .i64 0, .int .i64 0, .int .i64 0, .int .i64 0, .int .i64 0, .int .i64 0] (0, 0) _ rfl DY.out.bx Try.underlying95 rfl (by kernel_rfl)) rfl ⟨rfl, DY.out.rk.bel⟩
            | true =>
              rw [if_neg (by intro h; rcases h with h | h; exact HLN.out h; rw [hr] at h; cases h)] at HG
              obtain rfl := HG.out
              go_wp2
              exact bodyPost_ret (results_ct (fn := Try.f72) (p := 2) (u := 3) (ty := 95) rfl _ _ w.heap.size 95 #[.int .i64 1, .int .i64 sym, .int .i64 m1, .int .i64 m2, .int .i64 sd, .int .i64 ty, .int .i64 pz, .int .i64 qz, .int .i64 fl] (0, 0) _ rfl DW.out.bx Try.underlying95 rfl (by kernel_rfl)) rfl ⟨rfl, DW.out.rk.bel⟩
        · rw [if_pos (by simpa using hf)] at HG
          have hff : (fs != 0) = true := by simpa using hf
          clear hf
          have DZ := Aside0.mk (((((((((DB.out.set0 0).set1 0).set2 0).set3 0).set4 0).set5 0).set6 0).set7 0).set8 0)
          obtain rfl := HG.out
          go_wp2
          exact bodyPost_ret (results_ct (fn := Try.f72) (p := 2) (u := 3) (ty := 95) rfl _ _ w.heap.size 95 #[.int .i64 0, .int .i64 0, .int .i64 0, .int .i64 0, .int .i64 0, .int .i64 0, .int .i64 0, .int .i64 0, .int .i64 0] (0, 0) _ rfl DZ.out.bx Try.underlying95 rfl (by kernel_rfl)) rfl ⟨rfl, DZ.out.rk.bel⟩
      · rw [if_neg h1] at HG
        have H1 := Aside0.mk h1
        have h1b : (k == 1) = false := by simpa using h1
        clear h1
        unfold cmdMid at HG
        by_cases h2 : k = 2
        · subst h2
          rw [if_pos rfl] at HG
          clear h1b
          obtain ⟨ls, fs⟩ := s3
          have FX := Aside0.mk Dw6.out.rk.fault
          try dsimp only at *
          obtain ⟨c0, c1, c2, c3, c4, c5, c6, c7, c8⟩ := Dw6.out.bx.cells
          obtain ⟨z0, z1, z2, z3, z4, z5, z6, z7, z8⟩ := Dw6.out.frozen
          have cp := Dw6.out.cell
          go_wp2_with fail
          refine FX.out.mono ?_
          rintro e wf ⟨rfl, rfl⟩
          dsimp only
          unfold cmdFin at HG
          try dsimp only at HG
          by_cases hf : fs = 0
          · subst hf
            rw [if_neg (by decide)] at HG
            obtain ⟨m1, hm1⟩ : ∃ m, (if 4611686018427387905 < id then 4611686018427387905 else id) = m := ⟨_, rfl⟩
            have HM2 : Aside0 (mn 0 1073741825 = 0) := ⟨by decide⟩
            have HM1 := Aside0.mk (show mn id 4611686018427387905 = m1 from hm1)
            have hb1 : 0 ≤ m1 ∧ m1 ≤ 4611686018427387905 := by have := idr.out; rw [← hm1]; split <;> omega
            have hb11 := hb1.1
            have hb12 := hb1.2
            clear hb1
            rw [HM1.out, HM2.out] at HG
            have DN := Aside0.mk ((Dw6.out.set2 m1).set3 0)
            have LX := Aside0.mk DN.out.rk.left
            dsimp only at LX
            clear c0 c1 c2 c3 c4 c5 c6 c7 c8 z0 z1 z2 z3 z4 z5 z6 z7 z8 cp
            obtain ⟨c0, c1, c2, c3, c4, c5, c6, c7, c8⟩ := Dw6.out.bx.cells
            obtain ⟨z0, z1, z2, z3, z4, z5, z6, z7, z8⟩ := Dw6.out.frozen
            have cp := Dw6.out.cell
            obtain ⟨d0, d1, d2, d3, d4, d5, d6, d7, d8⟩ := DN.out.bx.cells
            have dp := DN.out.cell
            go_wp2_with fail
            clear hm1
            refine LX.out.mono ?_
            rintro e wg ⟨rfl, rfl⟩
            dsimp only
            obtain ⟨lm, hlm⟩ : ∃ m : Int, (ls.length : Int) = m := ⟨_, rfl⟩
            rw [hlm]
            have HLM := Aside0.mk hlm
            clear hlm
            clear d0 d1 d2 d3 d4 d5 d6 d7 d8 dp
            clear c0 c1 c2 c3 c4 c5 c6 c7 c8 z0 z1 z2 z3 z4 z5 z6 z7 z8 cp
            generalize ((w6.setCell ⟨w.heap.size, 2, none⟩ (.int .i64 m1)).setCell ⟨w.heap.size, 3, none⟩ (.int .i64 0)) = wn at *
            have RX := Aside0.mk (cmdRight_calls 2 sym m1 0 0 0 0 0 0 wn)
            have DZ := Aside0.mk (((((((((DN.out.set0 0).set1 0).set2 0).set3 0).set4 0).set5 0).set6 0).set7 0).set8 0)
            obtain ⟨c0, c1, c2, c3, c4, c5, c6, c7, c8⟩ := DN.out.bx.cells
            obtain ⟨z0, z1, z2, z3, z4, z5, z6, z7, z8⟩ := DN.out.frozen
            have cp := DN.out.cell
            by_cases hl : 0 < lm
            · rw [if_pos (.inl (by have := HLM.out; omega))] at HG
              have hll : decide (0 < lm) = true := by simpa using hl
              obtain rfl := HG.out
              go_wp2
              exact bodyPost_ret (results_ct (fn := Try.f72) (p := 2) (u := 3) (ty := 95) rfl _ _ w.heap.size 95 #[.int .i64 0, .int .i64 0, .int .i64 0, .int .i64 0, .int .i64 0, .int .i64 0, .int .i64 0, .int .i64 0, .int .i64 0] (0, 0) _ rfl DZ.out.bx Try.underlying95 rfl (by kernel_rfl)) rfl ⟨rfl, DZ.out.rk.bel⟩
            · have hll : decide (0 < lm) = false := by simpa using hl
              have HLN : Aside0 (¬ 0 < ls.length) := ⟨by have := HLM.out; omega⟩
              clear hl
              go_wp2_with fail
              refine RX.out.mono ?_
              rintro e wr ⟨rfl, hbr⟩
              have DR := Aside0.mk (DN.out.below (Below.mono hbr (Nat.le_refl _)))
              have DY := Aside0.mk (((((((((DR.out.set0 0).set1 0).set2 0).set3 0).set4 0).set5 0).set6 0).set7 0).set8 0)
              have DW := Aside0.mk (((((((((DR.out.set0 (2)).set1 (sym)).set2 (m1)).set3 (0)).set4 (0)).set5 (0)).set6 (0)).set7 (0)).set8 (0))
              clear hbr
              clear c0 c1 c2 c3 c4 c5 c6 c7 c8 z0 z1 z2 z3 z4 z5 z6 z7 z8 cp
              obtain ⟨c0, c1, c2, c3, c4, c5, c6, c7, c8⟩ := DR.out.bx.cells
              obtain ⟨z0, z1, z2, z3, z4, z5, z6, z7, z8⟩ := DR.out.frozen
              have cp := DR.out.cell
              cases hr : cmdRight ⟨2, sym, m1, 0, 0, 0, 0, 0, 0⟩ with
              | false =>
                rw [if_pos (.inr hr)] at HG
                obtain rfl := HG.out
                go_wp2
                exact bodyPost_ret (results_ct (fn := Try.f72) (p := 2) (u := 3) (ty := 95) rfl _ _ w.heap.size 95 #[.int .i64 0, .int .i64 0, .int .i64 0, .int .i64 0, .int .i64 0, .int .i64 0, .int .i64 0, .int .i64 0, .int .i64 0] (0, 0) _ rfl DY.out.bx Try.underlying95 rfl (by kernel_rfl)) rfl ⟨rfl, DY.out.rk.bel⟩
              | true =>
                rw [if_neg (by intro h; rcases h with h | h; exact HLN.out h; rw [hr] at h; cases h)] at HG
                obtain rfl := HG.out
                go_wp2
                exact bodyPost_ret (results_ct (fn := Try.f72) (p := 2) (u := 3) (ty := 95) rfl _ _ w.heap.size 95 #[.int .i64 2, .int .i64 sym, .int .i64 m1, .int .i64 0, .int .i64 0, .int .i64 0, .int .i64 0, .int .i64 0, .int .i64 0] (0, 0) _ rfl DW.out.bx Try.underlying95 rfl (by kernel_rfl)) rfl ⟨rfl, DW.out.rk.bel⟩
          · rw [if_pos (by simpa using hf)] at HG
            have hff : (fs != 0) = true := by simpa using hf
            clear hf
            have DZ := Aside0.mk (((((((((Dw6.out.set0 0).set1 0).set2 0).set3 0).set4 0).set5 0).set6 0).set7 0).set8 0)
            obtain rfl := HG.out
            go_wp2
            exact bodyPost_ret (results_ct (fn := Try.f72) (p := 2) (u := 3) (ty := 95) rfl _ _ w.heap.size 95 #[.int .i64 0, .int .i64 0, .int .i64 0, .int .i64 0, .int .i64 0, .int .i64 0, .int .i64 0, .int .i64 0, .int .i64 0] (0, 0) _ rfl DZ.out.bx Try.underlying95 rfl (by kernel_rfl)) rfl ⟨rfl, DZ.out.rk.bel⟩
        · rw [if_neg h2] at HG
          have H2 := Aside0.mk h2
          have h2b : (k != 2) = true := by simpa using h2
          clear h2
          obtain ⟨c0, c1, c2, c3, c4, c5, c6, c7, c8⟩ := Dw6.out.bx.cells
          obtain ⟨z0, z1, z2, z3, z4, z5, z6, z7, z8⟩ := Dw6.out.frozen
          have cp := Dw6.out.cell
          go_wp2_with fail
          clear c0 c1 c2 c3 c4 c5 c6 c7 c8 z0 z1 z2 z3 z4 z5 z6 z7 z8 cp
          have CX := Aside0.mk (Dw6.out.int)
          have CR := rUint_range _ 8 Dw6.out.rk.byt
          generalize rUint s3 8 = T at *
          obtain ⟨pr, s8⟩ := T
          try dsimp only at *
          have prr := Aside0.mk CR
          clear CR
          refine CX.out.mono ?_
          rintro e w12 ⟨rfl, hd⟩
          have Dw12 := Aside0.mk hd
          clear hd CX
          obtain ⟨c0, c1, c2, c3, c4, c5, c6, c7, c8⟩ := Dw12.out.bx.cells
          obtain ⟨z0, z1, z2, z3, z4, z5, z6, z7, z8⟩ := Dw12.out.frozen
          have cp := Dw12.out.cell
          go_wp2_with fail
          clear c0 c1 c2 c3 c4 c5 c6 c7 c8 z0 z1 z2 z3 z4 z5 z6 z7 z8 cp
          have CX := Aside0.mk (Dw12.out.int)
          have CR := rUint_range _ 8 Dw12.out.rk.byt
          generalize rUint s8 8 = T at *
          obtain ⟨qt, s9⟩ := T
          try dsimp only at *
          have qtr := Aside0.mk CR
          clear CR
          refine CX.out.mono ?_
          rintro e w13 ⟨rfl, hd⟩
          have Dw13 := Aside0.mk hd
          clear hd CX
          generalize unzig pr = pz at *
          generalize unzig qt = qz at *
          have DB := Aside0.mk ((Dw13.out.set6 pz).set7 qz)
          obtain ⟨c0, c1, c2, c3, c4, c5, c6, c7, c8⟩ := Dw13.out.bx.cells
          obtain ⟨z0, z1, z2, z3, z4, z5, z6, z7, z8⟩ := Dw13.out.frozen
          have cp := Dw13.out.cell
          obtain ⟨e0, e1, e2, e3, e4, e5, e6, e7, e8⟩ := DB.out.bx.cells
          have ep := DB.out.cell
          have FY := Aside0.mk DB.out.rk.fault
          obtain ⟨ls, fs⟩ := s9
          try dsimp only at *
          go_wp2_with fail
          clear e0 e1 e2 e3 e4 e5 e6 e7 e8 ep
          clear c0 c1 c2 c3 c4 c5 c6 c7 c8 z0 z1 z2 z3 z4 z5 z6 z7 z8 cp
          generalize ((w13.setCell ⟨w.heap.size, 6, none⟩ (.int .i64 pz)).setCell ⟨w.heap.size, 7, none⟩ (.int .i64 qz)) = wB at *
          try dsimp only at FY
          obtain ⟨c0, c1, c2, c3, c4, c5, c6, c7, c8⟩ := DB.out.bx.cells
          obtain ⟨z0, z1, z2, z3, z4, z5, z6, z7, z8⟩ := DB.out.frozen
          have cp := DB.out.cell
          refine FY.out.mono ?_
          rintro e wf ⟨rfl, rfl⟩
          dsimp only
          unfold cmdFin at HG
          try dsimp only at HG
          by_cases hf : fs = 0
          · subst hf
            rw [if_neg (by decide)] at HG
            obtain ⟨m1, hm1⟩ : ∃ m, (if 4611686018427387905 < id then 4611686018427387905 else id) = m := ⟨_, rfl⟩
            have HM2 : Aside0 (mn 0 1073741825 = 0) := ⟨by decide⟩
            have HM1 := Aside0.mk (show mn id 4611686018427387905 = m1 from hm1)
            have hb1 : 0 ≤ m1 ∧ m1 ≤ 4611686018427387905 := by have := idr.out; rw [← hm1]; split <;> omega
            have hb11 := hb1.1
            have hb12 := hb1.2
            clear hb1
            rw [HM1.out, HM2.out] at HG
            have DN := Aside0.mk ((DB.out.set2 m1).set3 0)
            have LX := Aside0.mk DN.out.rk.left
            dsimp only at LX
            clear c0 c1 c2 c3 c4 c5 c6 c7 c8 z0 z1 z2 z3 z4 z5 z6 z7 z8 cp
            obtain ⟨c0, c1, c2, c3, c4, c5, c6, c7, c8⟩ := DB.out.bx.cells
            obtain ⟨z0, z1, z2, z3, z4, z5, z6, z7, z8⟩ := DB.out.frozen
            have cp := DB.out.cell
            obtain ⟨d0, d1, d2, d3, d4, d5, d6, d7, d8⟩ := DN.out.bx.cells
            have dp := DN.out.cell
            go_wp2_with fail
            clear hm1
            refine LX.out.mono ?_
            rintro e wg ⟨rfl, rfl⟩
            dsimp only
            obtain ⟨lm, hlm⟩ : ∃ m : Int, (ls.length : Int) = m := ⟨_, rfl⟩
            rw [hlm]
            have HLM := Aside0.mk hlm
            clear hlm
            clear d0 d1 d2 d3 d4 d5 d6 d7 d8 dp
            clear c0 c1 c2 c3 c4 c5 c6 c7 c8 z0 z1 z2 z3 z4 z5 z6 z7 z8 cp
            generalize ((wB.setCell ⟨w.heap.size, 2, none⟩ (.int .i64 m1)).setCell ⟨w.heap.size, 3, none⟩ (.int .i64 0)) = wn at *
            have RX := Aside0.mk (cmdRight_calls k sym m1 0 0 0 pz qz 0 wn)
            have DZ := Aside0.mk (((((((((DN.out.set0 0).set1 0).set2 0).set3 0).set4 0).set5 0).set6 0).set7 0).set8 0)
            obtain ⟨c0, c1, c2, c3, c4, c5, c6, c7, c8⟩ := DN.out.bx.cells
            obtain ⟨z0, z1, z2, z3, z4, z5, z6, z7, z8⟩ := DN.out.frozen
            have cp := DN.out.cell
            by_cases hl : 0 < lm
            · rw [if_pos (.inl (by have := HLM.out; omega))] at HG
              have hll : decide (0 < lm) = true := by simpa using hl
              obtain rfl := HG.out
              go_wp2
              exact bodyPost_ret (results_ct (fn := Try.f72) (p := 2) (u := 3) (ty := 95) rfl _ _ w.heap.size 95 #[.int .i64 0, .int .i64 0, .int .i64 0, .int .i64 0, .int .i64 0, .int .i64 0, .int .i64 0, .int .i64 0, .int .i64 0] (0, 0) _ rfl DZ.out.bx Try.underlying95 rfl (by kernel_rfl)) rfl ⟨rfl, DZ.out.rk.bel⟩
            · have hll : decide (0 < lm) = false := by simpa using hl
              have HLN : Aside0 (¬ 0 < ls.length) := ⟨by have := HLM.out; omega⟩
              clear hl
              go_wp2_with fail
              refine RX.out.mono ?_
              rintro e wr ⟨rfl, hbr⟩
              have DR := Aside0.mk (DN.out.below (Below.mono hbr (Nat.le_refl _)))
              have DY := Aside0.mk (((((((((DR.out.set0 0).set1 0).set2 0).set3 0).set4 0).set5 0).set6 0).set7 0).set8 0)
              have DW := Aside0.mk (((((((((DR.out.set0 (k)).set1 (sym)).set2 (m1)).set3 (0)).set4 (0)).set5 (0)).set6 (pz)).set7 (qz)).set8 (0))
              clear hbr
              clear c0 c1 c2 c3 c4 c5 c6 c7 c8 z0 z1 z2 z3 z4 z5 z6 z7 z8 cp
              obtain ⟨c0, c1, c2, c3, c4, c5, c6, c7, c8⟩ := DR.out.bx.cells
              obtain ⟨z0, z1, z2, z3, z4, z5, z6, z7, z8⟩ := DR.out.frozen
              have cp := DR.out.cell
              cases hr : cmdRight ⟨k, sym, m1, 0, 0, 0, pz, qz, 0⟩ with
              | false =>
                rw [if_pos (.inr hr)] at HG
                obtain rfl := HG.out
                go_wp2
                exact bodyPost_ret (results_ct (fn := Try.f72) (p := 2) (u := 3) (ty := 95) rfl _ _ w.heap.size 95 #[.int .i64 0, .int .i64 0, .int .i64 0, .int .i64 0, .int .i64 0, .int .i64 0, .int .i64 0, .int .i64 0, .int .i64 0] (0, 0) _ rfl DY.out.bx Try.underlying95 rfl (by kernel_rfl)) rfl ⟨rfl, DY.out.rk.bel⟩
              | true =>
                rw [if_neg (by intro h; rcases h with h | h; exact HLN.out h; rw [hr] at h; cases h)] at HG
                obtain rfl := HG.out
                go_wp2
                exact bodyPost_ret (results_ct (fn := Try.f72) (p := 2) (u := 3) (ty := 95) rfl _ _ w.heap.size 95 #[.int .i64 k, .int .i64 sym, .int .i64 m1, .int .i64 0, .int .i64 0, .int .i64 0, .int .i64 pz, .int .i64 qz, .int .i64 0] (0, 0) _ rfl DW.out.bx Try.underlying95 rfl (by kernel_rfl)) rfl ⟨rfl, DW.out.rk.bel⟩
          · rw [if_pos (by simpa using hf)] at HG
            have hff : (fs != 0) = true := by simpa using hf
            clear hf
            have DZ := Aside0.mk (((((((((DB.out.set0 0).set1 0).set2 0).set3 0).set4 0).set5 0).set6 0).set7 0).set8 0)
            obtain rfl := HG.out
            go_wp2
            exact bodyPost_ret (results_ct (fn := Try.f72) (p := 2) (u := 3) (ty := 95) rfl _ _ w.heap.size 95 #[.int .i64 0, .int .i64 0, .int .i64 0, .int .i64 0, .int .i64 0, .int .i64 0, .int .i64 0, .int .i64 0, .int .i64 0] (0, 0) _ rfl DZ.out.bx Try.underlying95 rfl (by kernel_rfl)) rfl ⟨rfl, DZ.out.rk.bel⟩
def command_Decode.f (l0 : List Int) : Option (Int × Int × Int × Int × Int × Int × Int × Int × Int × Int) :=
  if bytB l0 = true ∧ l0.length ≤ 140737488355328 then some ((cmdDec l0).1.f0, (cmdDec l0).1.f1, (cmdDec l0).1.f2, (cmdDec l0).1.f3, (cmdDec l0).1.f4, (cmdDec l0).1.f5, (cmdDec l0).1.f6, (cmdDec l0).1.f7, (cmdDec l0).1.f8, (cmdDec l0).2) else none
theorem command_Decode.calls (A0 : Option Addr) (c0 : Nat) (l0 : List Int) (r1 r2 r3 r4 r5 r6 r7 r8 r9 r10 : Int) (w : World) (hr0 : Kd.C (Kd.int .u8) w A0 l0.length l0) (hc0 : l0.length ≤ c0) (h : command_Decode.f l0 = some (r1, r2, r3, r4, r5, r6, r7, r8, r9, r10)) :
    Calls Try.prog 72 #[.slice A0 l0.length c0] w fun e w' => e = .returned (.tuple #[.agg #[.int .i64 r1, .int .i64 r2, .int .i64 r3, .int .i64 r4, .int .i64 r5, .int .i64 r6, .int .i64 r7, .int .i64 r8, .int .i64 r9], .int .i64 r10]) ∧ Below w.heap.size w w' := by
  unfold command_Decode.f at h
  by_cases hp : bytB l0 = true ∧ l0.length ≤ 140737488355328
  · rw [if_pos hp] at h
    have h := Option.some.inj h
    simp only [Prod.mk.injEq] at h
    obtain ⟨rfl, rfl, rfl, rfl, rfl, rfl, rfl, rfl, rfl, rfl⟩ := h
    exact cmdDec_calls A0 c0 l0 w hr0 hp.2 (byt_of hp.1)
  · rw [if_neg hp] at h
    cases h
end Go.Proofs.Ytalpemoodollpaa.P
/- The reader of damperref05. -/
namespace Go.Proofs.Ytalpemoodollpaa.P
open Go.RowKit Go.Proofs.YtalpemoodollpaaW.PrintWords Go.Proofs.YtalpemoodollpaaW.PrintLast Go.Proofs.YtalpemoodollpaaW.PrintMore
set_option linter.unusedVariables false
set_option linter.unusedSimpArgs false
/-- The document's reader at g: up to the first fault it reads as s. -/
structure RR (w0 W : World) (g : Nat) (s : List Int × Int) : Prop where
  ex : ∃ (l : List Int) (A : Option Addr) (c : Nat), W.heap[g]? = some (.cells #[.slice A l.length c, .int .i64 s.2] 152 (0, 0)) ∧ l.length ≤ c ∧ Kd.C (Kd.int .u8) w0 A l.length l ∧ Byt l ∧ l.length ≤ 140737488355328 ∧ (s.2 = 0 → l = s.1)
  bel : Below w0.heap.size w0 W
  hg : w0.heap.size ≤ g
theorem RR.below {w0 W W1 : World} {g : Nat} {s : List Int × Int} (h : RR w0 W g s) (hb : Below W.heap.size W W1) : RR w0 W1 g s := by
  obtain ⟨⟨l, A, c, h1, h2⟩, hB, hg⟩ := h
  exact ⟨⟨l, A, c, (hb.block _ (blk_lt h1)).trans h1, h2⟩, below_then hB hB.size hb, hg⟩
theorem RR.set {w0 W : World} {g : Nat} {s : List Int × Int} (h : RR w0 W g s) {b j : Nat} (h0 : w0.heap.size ≤ b) (hb : b ≠ g) (u : Value) : RR w0 (W.setCell ⟨b, j, none⟩ u) g s := by
  obtain ⟨⟨l, A, c, h1, h2⟩, hB, hg⟩ := h
  exact ⟨⟨l, A, c, (Below.heap_setCell W ⟨b, j, none⟩ u g (by show g ≠ b; omega)).trans h1, h2⟩, hB.setCell (p := ⟨b, j, none⟩) h0 u, hg⟩
/-- take, behind a fault. -/
theorem take_fault (g : Nat) (l : List Int) (A : Option Addr) (c : Nat) (f : Int) (W : World) (hb : W.heap[g]? = some (.cells #[.slice A l.length c, .int .i64 f] 152 (0, 0))) (hf : f ≠ 0) (n s z k : Int) (B : Option Addr) (m q : Nat) :
    Calls Try.prog 140 #[.pointer (some ⟨g, 0, none⟩), .agg #[.int .u64 n, .int .i64 s, .slice B m q, .int .i64 z, .int .i64 k]] W fun e w' => e = .returned (.agg #[.int .u64 0, .int .i64 0, .slice none 0 0, .int .i64 0, .int .i64 0]) ∧ Below W.heap.size W w' := by
  have hlt := blk_lt hb
  have hb1 := blk_alloc (blk_alloc hb (.cells #[.int .u64 n, .int .i64 s, .slice B m q, .int .i64 z, .int .i64 k] 81)) (.cells #[.int .u64 0, .int .i64 0, .slice none 0 0, .int .i64 0, .int .i64 0] 81)
  have c1 := (blk_cell hb1 1).trans rfl
  have HX := Aside0.mk (blk_new (W.alloc (.cells #[.int .u64 n, .int .i64 s, .slice B m q, .int .i64 z, .int .i64 k] 81)) (.cells #[.int .u64 0, .int .i64 0, .slice none 0 0, .int .i64 0, .int .i64 0] 81))
  have HB := Aside0.mk (below_alloc (below_alloc (Below.refl W.heap.size W) (.cells #[.int .u64 n, .int .i64 s, .slice B m q, .int .i64 z, .int .i64 k] 81)) (.cells #[.int .u64 0, .int .i64 0, .slice none 0 0, .int .i64 0, .int .i64 0] 81))
  have hff : (f != 0) = true := by simpa using hf
  clear hb hb1 hf
  go_enter Try.func140, Try.ntmps140
  go_wp2
  refine bodyPost_ret (results_cell_row (fn := Try.f140) (p := 4) (ty := 81) rfl _ _ (W.heap.size + 1) 81 #[.int .u64 0, .int .i64 0, .slice none 0 0, .int .i64 0, .int .i64 0] (0, 0) _ rfl ?_ Try.underlying81 rfl (by kernel_rfl)) rfl ?_
  · have := HX.out
    rw [World.size_alloc] at this
    exact this
  · exact ⟨rfl, HB.out⟩
theorem take_ok (g : Nat) (l : List Int) (A : Option Addr) (c : Nat) (W : World) (hb : W.heap[g]? = some (.cells #[.slice A l.length c, .int .i64 0] 152 (0, 0))) (n s k : Int) (z : Nat) (hz : z ≤ l.length) (hl : l.length ≤ 140737488355328) (B : Option Addr) (m q : Nat) :
    Calls Try.prog 140 #[.pointer (some ⟨g, 0, none⟩), .agg #[.int .u64 n, .int .i64 s, .slice B m q, .int .i64 (z : Int), .int .i64 k]] W fun e w' => e = .returned (.agg #[.int .u64 n, .int .i64 s, .slice B m q, .int .i64 (z : Int), .int .i64 k]) ∧
      ∃ A', A'.map (·.block) = A.map (·.block) ∧ w'.heap[g]? = some (.cells #[.slice A' (l.drop z).length (c - z), .int .i64 k] 152 (0, 0)) ∧ Fr W w' (fun k => k = g) ∧
        ∀ (w : World) (xs : List Int), l.length ≤ c → Kd.C (Kd.int .u8) w A l.length xs → Kd.C (Kd.int .u8) w A' (l.drop z).length (xs.drop z) := by
  have hlt := blk_lt hb
  have hu := Try.underlying81
  have hb0 := blk_alloc (blk_alloc hb (.cells #[.int .u64 n, .int .i64 s, .slice B m q, .int .i64 (z : Int), .int .i64 k] 81)) (.cells #[.int .u64 0, .int .i64 0, .slice none 0 0, .int .i64 0, .int .i64 0] 81)
  have c0 := (blk_cell hb0 0).trans rfl
  have c1 := (blk_cell hb0 1).trans rfl
  have z0 := blk_frozen hb0 0
  have z1 := blk_frozen hb0 1
  have hsz : (W.setCell ⟨g, 1, none⟩ (.int .i64 k)).heap.size = W.heap.size := by simp [World.setCell]
  have HB2 : Aside0 ((((W.setCell ⟨g, 1, none⟩ (.int .i64 k)).alloc (.cells #[.int .u64 n, .int .i64 s, .slice B m q, .int .i64 (z : Int), .int .i64 k] 81)).alloc (.cells #[.int .u64 0, .int .i64 0, .slice none 0 0, .int .i64 0, .int .i64 0] 81)).heap[g]? = some (.cells #[.slice A l.length c, .int .i64 k] 152 (0, 0))) := ⟨blk_alloc (blk_alloc (by simpa using blk_set hb 1 (.int .i64 k)) _) _⟩
  have HX2 : Aside0 (Box5 (((W.setCell ⟨g, 1, none⟩ (.int .i64 k)).alloc (.cells #[.int .u64 n, .int .i64 s, .slice B m q, .int .i64 (z : Int), .int .i64 k] 81)).alloc (.cells #[.int .u64 0, .int .i64 0, .slice none 0 0, .int .i64 0, .int .i64 0] 81)) W.heap.size n s (.slice B m q) z k) := ⟨blk_alloc (by have := blk_new (W.setCell ⟨g, 1, none⟩ (.int .i64 k)) (.cells #[.int .u64 n, .int .i64 s, .slice B m q, .int .i64 (z : Int), .int .i64 k] 81); rw [hsz] at this; exact this) _⟩
  have HY2 : Aside0 (Box5 (((W.setCell ⟨g, 1, none⟩ (.int .i64 k)).alloc (.cells #[.int .u64 n, .int .i64 s, .slice B m q, .int .i64 (z : Int), .int .i64 k] 81)).alloc (.cells #[.int .u64 0, .int .i64 0, .slice none 0 0, .int .i64 0, .int .i64 0] 81)) (W.heap.size + 1) 0 0 (.slice none 0 0) 0 0) := ⟨by have := blk_new ((W.setCell ⟨g, 1, none⟩ (.int .i64 k)).alloc (.cells #[.int .u64 n, .int .i64 s, .slice B m q, .int .i64 (z : Int), .int .i64 k] 81)) (.cells #[.int .u64 0, .int .i64 0, .slice none 0 0, .int .i64 0, .int .i64 0] 81); rw [World.size_alloc, hsz] at this; exact this⟩
  have HF2 : Aside0 (Fr W (((W.setCell ⟨g, 1, none⟩ (.int .i64 k)).alloc (.cells #[.int .u64 n, .int .i64 s, .slice B m q, .int .i64 (z : Int), .int .i64 k] 81)).alloc (.cells #[.int .u64 0, .int .i64 0, .slice none 0 0, .int .i64 0, .int .i64 0] 81)) (fun k => k = g)) := ⟨(((Fr.refl W (fun k => k = g)).setCell ⟨g, 1, none⟩ (.int .i64 k) (fun _ => rfl)).alloc _).alloc _⟩
  have hg : g < W.heap.size := hlt
  obtain ⟨A', hcut, hA', hR'⟩ := cut_ A l.length c z hz
  rw [← List.length_drop] at hR'
  have HCUT := Aside0.mk hR'
  have HA' := Aside0.mk hA'
  clear hA' hR' hb hb0 hsz
  go_enter Try.func140, Try.ntmps140
  go_wp2
  generalize (((W.setCell ⟨g, 1, none⟩ (.int .i64 k)).alloc (.cells #[.int .u64 n, .int .i64 s, .slice B m q, .int .i64 (z : Int), .int .i64 k] 81)).alloc (.cells #[.int .u64 0, .int .i64 0, .slice none 0 0, .int .i64 0, .int .i64 0] 81)) = W2 at *
  clear c0 c1 z0 z1
  have c0 := (blk_cell HB2.out 0).trans rfl
  have z0 := blk_frozen HB2.out 0
  obtain ⟨x0, x1, x2, x3, x4⟩ := HX2.out.cells
  obtain ⟨y0, y1, y2, y3, y4⟩ := HY2.out.cells
  have HB3 : Aside0 ((W2.setCell ⟨g, 0, none⟩ (.slice A' (l.length - z) (c - z))).drew.heap[g]? = some (.cells #[.slice A' (l.length - z) (c - z), .int .i64 k] 152 (0, 0))) := ⟨(blk_set HB2.out 0 (.slice A' (l.length - z) (c - z))).trans (by simp)⟩
  have HX3 := Aside0.mk (show Box5 (W2.setCell ⟨g, 0, none⟩ (.slice A' (l.length - z) (c - z))).drew W.heap.size n s (.slice B m q) z k from blk_far HX2.out (by show W.heap.size ≠ g; omega) _)
  have HY3 := Aside0.mk (show Box5 (W2.setCell ⟨g, 0, none⟩ (.slice A' (l.length - z) (c - z))).drew (W.heap.size + 1) 0 0 (.slice none 0 0) 0 0 from blk_far HY2.out (by show W.heap.size + 1 ≠ g; omega) _)
  have HF3 := Aside0.mk (HF2.out.setCell ⟨g, 0, none⟩ (.slice A' (l.length - z) (c - z)) (fun _ => rfl)).drew
  go_region
  generalize (W2.setCell ⟨g, 0, none⟩ (.slice A' (l.length - z) (c - z))).drew = W3 at *
  clear c0 z0 x0 x1 x2 x3 x4 y0 y1 y2 y3 y4
  obtain ⟨x0, x1, x2, x3, x4⟩ := HX3.out.cells
  obtain ⟨y0, y1, y2, y3, y4⟩ := HY3.out.cells
  have u0 := blk_frozen HY3.out 0
  have u1 := blk_frozen HY3.out 1
  have u2 := blk_frozen HY3.out 2
  have u3 := blk_frozen HY3.out 3
  have u4 := blk_frozen HY3.out 4
  have HY4 := Aside0.mk (HY3.out.set5 n s (z : Int) k (.slice B m q))
  have HF4 := Aside0.mk (HF3.out.far5 (b := W.heap.size + 1) (by omega) n s (z : Int) k (.slice B m q))
  have HB4 := Aside0.mk (blk_far (blk_far (blk_far (blk_far (blk_far HB3.out (p := ⟨W.heap.size + 1, 0, none⟩) (by show g ≠ W.heap.size + 1; omega) (.int .u64 n)) (p := ⟨W.heap.size + 1, 1, none⟩) (by show g ≠ W.heap.size + 1; omega) (.int .i64 s)) (p := ⟨W.heap.size + 1, 2, none⟩) (by show g ≠ W.heap.size + 1; omega) (.slice B m q)) (p := ⟨W.heap.size + 1, 3, none⟩) (by show g ≠ W.heap.size + 1; omega) (.int .i64 (z : Int))) (p := ⟨W.heap.size + 1, 4, none⟩) (by show g ≠ W.heap.size + 1; omega) (.int .i64 k))
  go_wp2
  refine bodyPost_ret (results_cell_row (fn := Try.f140) (p := 4) (ty := 81) rfl _ _ (W.heap.size + 1) 81 #[.int .u64 n, .int .i64 s, .slice B m q, .int .i64 (z : Int), .int .i64 k] (0, 0) _ rfl HY4.out Try.underlying81 rfl (by kernel_rfl)) rfl ?_
  refine ⟨rfl, A', HA'.out, ?_, HF4.out, HCUT.out⟩
  rw [List.length_drop]
  exact HB4.out
/-- RR: the calls. -/
theorem rUint_f (l : List Int) (f : Int) (hf : f ≠ 0) (k : Int) : rUint (l, f) k = (0, (l, f)) := by
  unfold rUint
  rw [rTake_f l f hf]
  split <;> rfl
theorem rNum_f (l : List Int) (f : Int) (hf : f ≠ 0) : rNum (l, f) = (0, (l, f)) := by
  unfold rNum
  rw [if_pos hf]
set_option maxRecDepth 100000 in
set_option maxHeartbeats 1000000 in
theorem RR.one {w0 W : World} {g : Nat} {s : List Int × Int} (h : RR w0 W g s) :
    Calls Try.prog 122 #[.pointer (some ⟨g, 0, none⟩)] W fun e w' => e = .returned (.int .i64 (rUint s 1).1) ∧ RR w0 w' g (rUint s 1).2 ∧ KeepG W w' g := by
  obtain ⟨s1, f⟩ := s
  obtain ⟨⟨l, A, c, hb, hlc, hC, hby, hl, hs⟩, hB, hg⟩ := h
  dsimp only at hb hs
  have c0 : W.cell? ⟨g, 0, none⟩ = some (.slice A l.length c) := (blk_cell hb 0).trans rfl
  have HRD := Aside0.mk (RD.uint A c l 1 W (Kd.C_below hC hB) hlc hby)
  have HB0 := Aside0.mk hb
  have HC := Aside0.mk hC
  have HBY := Aside0.mk hby
  have HB := Aside0.mk hB
  have HLC := Aside0.mk hlc
  have HG := Aside0.mk hg
  have HL := Aside0.mk hl
  by_cases hf : f = 0
  · subst hf
    obtain rfl := hs rfl
    have HG0 := got_read l ⟨1, 1, 0, 0, []⟩
    rw [show gotF (l, 0) ⟨1, 1, 0, 0, []⟩ = ((rUint (l, 0) 1).1, 0, [], (rUint (l, 0) 1).2) from rfl, show readF l ⟨1, 1, 0, 0, []⟩ = rdUint l 1 from rfl] at HG0
    obtain ⟨hv, hw, _, hfe, hz0, hz1, hd⟩ := HG0
    have HRG := rUint1_range (l, 0) hby
    have HRS := Aside0.mk HRG
    clear HRG hb hC hby hB hlc hg hl
    try dsimp only at *
    generalize rUint (l, 0) 1 = P at *
    generalize rdUint l 1 = T at *
    obtain ⟨pn, pl, pf⟩ := P
    obtain ⟨n, sg, raw, z, k⟩ := T
    try dsimp only at *
    obtain ⟨z, rfl⟩ := Int.eq_ofNat_of_zero_le hz0
    have HZ := Aside0.mk (show z ≤ l.length by omega)
    have HD := Aside0.mk hd
    obtain rfl := hv
    obtain rfl := hfe
    have hr0 := HRS.out.1
    have hr1 := HRS.out.2
    clear hd hz0 hz1
    go_enter Try.func122, Try.ntmps122
    go_wp2_with fail
    refine HRD.out.mono ?_
    rintro e w1 ⟨B, m, rfl, hq, hBA, hb1⟩
    have HB1 := Aside0.mk (show w1.heap[g]? = some (.cells #[.slice A l.length c, .int .i64 0] 152 (0, 0)) from (hb1.block _ (blk_lt HB0.out)).trans HB0.out)
    have HL1 := Aside0.mk hb1
    clear hq hBA hb1 c0
    have hfd : ∀ w : World, (Instr.field 81 (.agg #[.int .u64 pn, .int .i64 sg, .slice B raw.length m, .int .i64 (z : Int), .int .i64 pf]) 0).run Try.prog w = .ok (.int .u64 pn) w := fun _ => by kernel_rfl
    dsimp only
    go_wp2_with fail
    refine (take_ok g l A c w1 HB1.out _ _ _ z HZ.out HL.out B _ m).mono ?_
    rintro e w2 ⟨rfl, A', hA', hb2, hf2, hC2⟩
    have HB2 := Aside0.mk hb2
    have HF2 := Aside0.mk hf2
    have HC2 := Aside0.mk (hC2 w0 l HLC.out HC.out)
    clear hb2 hf2 hC2 hA'
    go_wp2
    go_ret
    refine ⟨rfl, ⟨⟨l.drop z, A', c - z, HB2.out, by have := HLC.out; rw [List.length_drop]; omega, HC2.out, HBY.out.drop z, by have := HL.out; rw [List.length_drop]; omega, fun h => (HD.out h).symm⟩, (below_then HB.out HB.out.size HL1.out).trans (HF2.out.below (Nat.le_trans HB.out.size HL1.out.size) (fun k hk => by rw [hk]; exact HG.out)), HG.out⟩, fun b o h hne => HF2.out.blk ((HL1.out.block _ (blk_lt h)).trans h) hne⟩
  · have hr : rUint (s1, f) 1 = (0, (s1, f)) := rUint_f s1 f hf 1
    rw [hr]
    have HF := Aside0.mk hf
    have HSS := Aside0.mk hs
    clear hr hb hC hby hB hlc hg hl hf hs
    generalize rdUint l 1 = T at *
    obtain ⟨n, sg, raw, z, k⟩ := T
    go_enter Try.func122, Try.ntmps122
    go_wp2_with fail
    refine HRD.out.mono ?_
    rintro e w1 ⟨B, m, rfl, hq, hBA, hb1⟩
    have HB1 := Aside0.mk (show w1.heap[g]? = some (.cells #[.slice A l.length c, .int .i64 f] 152 (0, 0)) from (hb1.block _ (blk_lt HB0.out)).trans HB0.out)
    have HL1 := Aside0.mk hb1
    clear hq hBA hb1 c0
    have hfd : ∀ w : World, (Instr.field 81 (.agg #[.int .u64 0, .int .i64 0, .slice none 0 0, .int .i64 0, .int .i64 0]) 0).run Try.prog w = .ok (.int .u64 0) w := fun _ => by kernel_rfl
    dsimp only
    go_wp2_with fail
    refine (take_fault g l A c f w1 HB1.out HF.out _ _ _ _ B _ m).mono ?_
    rintro e w2 ⟨rfl, hb2⟩
    have HL2 := Aside0.mk (Below.trans HL1.out (Below.mono hb2 HL1.out.size))
    clear hb2
    go_wp2
    go_ret
    exact ⟨rfl, ⟨⟨l, A, c, (HL2.out.block _ (blk_lt HB0.out)).trans HB0.out, HLC.out, HC.out, HBY.out, HL.out, HSS.out⟩, below_then HB.out HB.out.size HL2.out, HG.out⟩, fun b o h hne => (HL2.out.block _ (blk_lt h)).trans h⟩
set_option maxRecDepth 100000 in
set_option maxHeartbeats 1000000 in
theorem RR.num {w0 W : World} {g : Nat} {s : List Int × Int} (h : RR w0 W g s) :
    Calls Try.prog 123 #[.pointer (some ⟨g, 0, none⟩)] W fun e w' => e = .returned (.int .u64 (rNum s).1) ∧ RR w0 w' g (rNum s).2 ∧ KeepG W w' g := by
  obtain ⟨s1, f⟩ := s
  obtain ⟨⟨l, A, c, hb, hlc, hC, hby, hl, hs⟩, hB, hg⟩ := h
  dsimp only at hb hs
  have c0 : W.cell? ⟨g, 0, none⟩ = some (.slice A l.length c) := (blk_cell hb 0).trans rfl
  have HRD := Aside0.mk (RD.num A c l W (Kd.C_below hC hB) hlc hby hl)
  have HB0 := Aside0.mk hb
  have HC := Aside0.mk hC
  have HBY := Aside0.mk hby
  have HB := Aside0.mk hB
  have HLC := Aside0.mk hlc
  have HG := Aside0.mk hg
  have HL := Aside0.mk hl
  by_cases hf : f = 0
  · subst hf
    obtain rfl := hs rfl
    have HG0 := got_read l ⟨3, 0, 0, 0, []⟩
    rw [show gotF (l, 0) ⟨3, 0, 0, 0, []⟩ = ((rNum (l, 0)).1, 0, [], (rNum (l, 0)).2) from rfl, show readF l ⟨3, 0, 0, 0, []⟩ = fin3 l (numGo 10 0 0 l) from rfl] at HG0
    obtain ⟨hv, hw, _, hfe, hz0, hz1, hd⟩ := HG0
    have HRG := rNum_range (l, 0) hby
    have HRS := Aside0.mk HRG
    clear HRG hb hC hby hB hlc hg hl
    try dsimp only at *
    generalize rNum (l, 0) = P at *
    generalize fin3 l (numGo 10 0 0 l) = T at *
    obtain ⟨pn, pl, pf⟩ := P
    obtain ⟨n, sg, raw, z, k⟩ := T
    try dsimp only at *
    obtain ⟨z, rfl⟩ := Int.eq_ofNat_of_zero_le hz0
    have HZ := Aside0.mk (show z ≤ l.length by omega)
    have HD := Aside0.mk hd
    obtain rfl := hv
    obtain rfl := hfe
    clear hd hz0 hz1
    go_enter Try.func123, Try.ntmps123
    go_wp2_with fail
    refine HRD.out.mono ?_
    rintro e w1 ⟨B, m, rfl, hq, hBA, hb1⟩
    have HB1 := Aside0.mk (show w1.heap[g]? = some (.cells #[.slice A l.length c, .int .i64 0] 152 (0, 0)) from (hb1.block _ (blk_lt HB0.out)).trans HB0.out)
    have HL1 := Aside0.mk hb1
    clear hq hBA hb1 c0
    have hfd : ∀ w : World, (Instr.field 81 (.agg #[.int .u64 pn, .int .i64 sg, .slice B raw.length m, .int .i64 (z : Int), .int .i64 pf]) 0).run Try.prog w = .ok (.int .u64 pn) w := fun _ => by kernel_rfl
    dsimp only
    go_wp2_with fail
    refine (take_ok g l A c w1 HB1.out _ _ _ z HZ.out HL.out B _ m).mono ?_
    rintro e w2 ⟨rfl, A', hA', hb2, hf2, hC2⟩
    have HB2 := Aside0.mk hb2
    have HF2 := Aside0.mk hf2
    have HC2 := Aside0.mk (hC2 w0 l HLC.out HC.out)
    clear hb2 hf2 hC2 hA'
    go_wp2
    go_ret
    refine ⟨rfl, ⟨⟨l.drop z, A', c - z, HB2.out, by have := HLC.out; rw [List.length_drop]; omega, HC2.out, HBY.out.drop z, by have := HL.out; rw [List.length_drop]; omega, fun h => (HD.out h).symm⟩, (below_then HB.out HB.out.size HL1.out).trans (HF2.out.below (Nat.le_trans HB.out.size HL1.out.size) (fun k hk => by rw [hk]; exact HG.out)), HG.out⟩, fun b o h hne => HF2.out.blk ((HL1.out.block _ (blk_lt h)).trans h) hne⟩
  · have hr : rNum (s1, f) = (0, (s1, f)) := rNum_f s1 f hf
    rw [hr]
    have HF := Aside0.mk hf
    have HSS := Aside0.mk hs
    clear hr hb hC hby hB hlc hg hl hf hs
    generalize fin3 l (numGo 10 0 0 l) = T at *
    obtain ⟨n, sg, raw, z, k⟩ := T
    go_enter Try.func123, Try.ntmps123
    go_wp2_with fail
    refine HRD.out.mono ?_
    rintro e w1 ⟨B, m, rfl, hq, hBA, hb1⟩
    have HB1 := Aside0.mk (show w1.heap[g]? = some (.cells #[.slice A l.length c, .int .i64 f] 152 (0, 0)) from (hb1.block _ (blk_lt HB0.out)).trans HB0.out)
    have HL1 := Aside0.mk hb1
    clear hq hBA hb1 c0
    have hfd : ∀ w : World, (Instr.field 81 (.agg #[.int .u64 0, .int .i64 0, .slice none 0 0, .int .i64 0, .int .i64 0]) 0).run Try.prog w = .ok (.int .u64 0) w := fun _ => by kernel_rfl
    dsimp only
    go_wp2_with fail
    refine (take_fault g l A c f w1 HB1.out HF.out _ _ _ _ B _ m).mono ?_
    rintro e w2 ⟨rfl, hb2⟩
    have HL2 := Aside0.mk (Below.trans HL1.out (Below.mono hb2 HL1.out.size))
    clear hb2
    go_wp2
    go_ret
    exact ⟨rfl, ⟨⟨l, A, c, (HL2.out.block _ (blk_lt HB0.out)).trans HB0.out, HLC.out, HC.out, HBY.out, HL.out, HSS.out⟩, below_then HB.out HB.out.size HL2.out, HG.out⟩, fun b o h hne => (HL2.out.block _ (blk_lt h)).trans h⟩
set_option maxRecDepth 100000 in
set_option maxHeartbeats 1000000 in
theorem RR.int {w0 W : World} {g : Nat} {s : List Int × Int} (h : RR w0 W g s) :
    Calls Try.prog 124 #[.pointer (some ⟨g, 0, none⟩)] W fun e w' => e = .returned (.int .i64 (unzig (rUint s 8).1)) ∧ RR w0 w' g (rUint s 8).2 ∧ KeepG W w' g := by
  obtain ⟨s1, f⟩ := s
  obtain ⟨⟨l, A, c, hb, hlc, hC, hby, hl, hs⟩, hB, hg⟩ := h
  dsimp only at hb hs
  have c0 : W.cell? ⟨g, 0, none⟩ = some (.slice A l.length c) := (blk_cell hb 0).trans rfl
  have HRD := Aside0.mk (RD.int A c l W (Kd.C_below hC hB) hlc hby)
  have HB0 := Aside0.mk hb
  have HC := Aside0.mk hC
  have HBY := Aside0.mk hby
  have HB := Aside0.mk hB
  have HLC := Aside0.mk hlc
  have HG := Aside0.mk hg
  have HL := Aside0.mk hl
  by_cases hf : f = 0
  · subst hf
    obtain rfl := hs rfl
    have HG0 := got_read l ⟨2, 0, 0, 0, []⟩
    rw [show gotF (l, 0) ⟨2, 0, 0, 0, []⟩ = (0, unzig (rUint (l, 0) 8).1, [], (rUint (l, 0) 8).2) from rfl, show readF l ⟨2, 0, 0, 0, []⟩ = rdInt l from rfl] at HG0
    obtain ⟨hv, hw, _, hfe, hz0, hz1, hd⟩ := HG0
    have HRG := rUint_range (l, 0) 8 hby
    have HRS := Aside0.mk HRG
    clear HRG hb hC hby hB hlc hg hl
    try dsimp only at *
    generalize rUint (l, 0) 8 = P at *
    generalize rdInt l = T at *
    obtain ⟨pn, pl, pf⟩ := P
    obtain ⟨n, sg, raw, z, k⟩ := T
    try dsimp only at *
    obtain ⟨z, rfl⟩ := Int.eq_ofNat_of_zero_le hz0
    have HZ := Aside0.mk (show z ≤ l.length by omega)
    have HD := Aside0.mk hd
    obtain rfl := hw
    obtain rfl := hfe
    clear hd hz0 hz1
    go_enter Try.func124, Try.ntmps124
    go_wp2_with fail
    refine HRD.out.mono ?_
    rintro e w1 ⟨B, m, rfl, hq, hBA, hb1⟩
    have HB1 := Aside0.mk (show w1.heap[g]? = some (.cells #[.slice A l.length c, .int .i64 0] 152 (0, 0)) from (hb1.block _ (blk_lt HB0.out)).trans HB0.out)
    have HL1 := Aside0.mk hb1
    clear hq hBA hb1 c0
    have hfd : ∀ w : World, (Instr.field 81 (.agg #[.int .u64 n, .int .i64 (unzig pn), .slice B raw.length m, .int .i64 (z : Int), .int .i64 pf]) 1).run Try.prog w = .ok (.int .i64 (unzig pn)) w := fun _ => by kernel_rfl
    dsimp only
    go_wp2_with fail
    refine (take_ok g l A c w1 HB1.out _ _ _ z HZ.out HL.out B _ m).mono ?_
    rintro e w2 ⟨rfl, A', hA', hb2, hf2, hC2⟩
    have HB2 := Aside0.mk hb2
    have HF2 := Aside0.mk hf2
    have HC2 := Aside0.mk (hC2 w0 l HLC.out HC.out)
    clear hb2 hf2 hC2 hA'
    go_wp2
    go_ret
    refine ⟨rfl, ⟨⟨l.drop z, A', c - z, HB2.out, by have := HLC.out; rw [List.length_drop]; omega, HC2.out, HBY.out.drop z, by have := HL.out; rw [List.length_drop]; omega, fun h => (HD.out h).symm⟩, (below_then HB.out HB.out.size HL1.out).trans (HF2.out.below (Nat.le_trans HB.out.size HL1.out.size) (fun k hk => by rw [hk]; exact HG.out)), HG.out⟩, fun b o h hne => HF2.out.blk ((HL1.out.block _ (blk_lt h)).trans h) hne⟩
  · have hr : rUint (s1, f) 8 = (0, (s1, f)) := rUint_f s1 f hf 8
    rw [hr]
    have HF := Aside0.mk hf
    have HSS := Aside0.mk hs
    clear hr hb hC hby hB hlc hg hl hf hs
    generalize rdInt l = T at *
    obtain ⟨n, sg, raw, z, k⟩ := T
    go_enter Try.func124, Try.ntmps124
    go_wp2_with fail
    refine HRD.out.mono ?_
    rintro e w1 ⟨B, m, rfl, hq, hBA, hb1⟩
    have HB1 := Aside0.mk (show w1.heap[g]? = some (.cells #[.slice A l.length c, .int .i64 f] 152 (0, 0)) from (hb1.block _ (blk_lt HB0.out)).trans HB0.out)
    have HL1 := Aside0.mk hb1
    clear hq hBA hb1 c0
    have hfd : ∀ w : World, (Instr.field 81 (.agg #[.int .u64 0, .int .i64 0, .slice none 0 0, .int .i64 0, .int .i64 0]) 1).run Try.prog w = .ok (.int .i64 0) w := fun _ => by kernel_rfl
    dsimp only
    go_wp2_with fail
    refine (take_fault g l A c f w1 HB1.out HF.out _ _ _ _ B _ m).mono ?_
    rintro e w2 ⟨rfl, hb2⟩
    have HL2 := Aside0.mk (Below.trans HL1.out (Below.mono hb2 HL1.out.size))
    clear hb2
    go_wp2
    go_ret
    exact ⟨by show Ending.returned (.int .i64 0) = Ending.returned (.int .i64 (unzig 0)); rw [show unzig 0 = 0 by decide], ⟨⟨l, A, c, (HL2.out.block _ (blk_lt HB0.out)).trans HB0.out, HLC.out, HC.out, HBY.out, HL.out, HSS.out⟩, below_then HB.out HB.out.size HL2.out, HG.out⟩, fun b o h hne => (HL2.out.block _ (blk_lt h)).trans h⟩
end Go.Proofs.Ytalpemoodollpaa.P
-- Printed by hookprint.py (the session's own program, over the kit's print.py): checked by Lean like any text.
namespace Go.Proofs.Ytalpemoodollpaa.P
open Go.RowKit Go.Proofs.YtalpemoodollpaaW.PrintWords Go.Proofs.YtalpemoodollpaaW.PrintLast Go.Proofs.YtalpemoodollpaaW.PrintMore
attribute [local go_sem] max2_int min2_int max_two min_two max_three min_three max_four min_four   -- for this text's walks alone
set_option linter.unusedVariables false
set_option linter.unusedSimpArgs false

/-! ### damperref05_in: function 130 -/
def damperref05_in.f (a0 : Int) (a1 : Int) (a2 : Int) : Option (Bool) := if a0 ≥ a1 then (some (decide (a0 ≤ a2))) else (some false)
set_option maxHeartbeats 8000000 in
set_option maxRecDepth 100000 in
theorem damperref05_in.calls (a0 : Int) (a1 : Int) (a2 : Int) (r : Bool) (w : World) (h : damperref05_in.f a0 a1 a2 = some r) :
    Calls Try.prog 130 #[.int .i64 a0, .int .i64 a1, .int .i64 a2] w fun e w' => e = .returned (.bool r) ∧ Drawn0 w w' := by
  have H : (if a0 ≥ a1 then (some (decide (a0 ≤ a2))) else (some false)) = some r := h
  clear h
  by_cases c4 : a0 ≥ a1
  · rw [if_pos c4] at H
    have c4b0 : decide (a1 ≤ a0) = true := decide_eq_true c4
    clear c4
    obtain rfl := Option.some.inj H
    go_enter Try.func130, Try.ntmps130
    go_wp2
    go_ret
    exact ⟨by first | rfl | (simp; done) | (simp [*]; done), by repeat (first | exact Drawn0.refl _ | apply Drawn0.step)⟩
  · rw [if_neg c4] at H
    have c4b0 : decide (a1 ≤ a0) = false := decide_eq_false c4
    clear c4
    obtain rfl := Option.some.inj H
    go_enter Try.func130, Try.ntmps130
    go_wp2
    go_ret
    exact ⟨by first | rfl | (simp; done) | (simp [*]; done), by repeat (first | exact Drawn0.refl _ | apply Drawn0.step)⟩

end Go.Proofs.Ytalpemoodollpaa.P
-- Printed by hookprint.py (the session's own program, over the kit's print.py): checked by Lean like any text.
namespace Go.Proofs.Ytalpemoodollpaa.P
open Go.RowKit Go.Proofs.YtalpemoodollpaaW.PrintWords Go.Proofs.YtalpemoodollpaaW.PrintLast Go.Proofs.YtalpemoodollpaaW.PrintMore
attribute [local go_sem] max2_int min2_int max_two min_two max_three min_three max_four min_four   -- for this text's walks alone
set_option linter.unusedVariables false
set_option linter.unusedSimpArgs false

attribute [local go_sem high] eqA95
/-! ### damperref05_Right: function 90 -/
def damperref05_Right.j0 : Nat → Bool → Int → Int → Int → Int → Int → Int → Int → Int → Int → Option (Bool)
  | 0, _, _, _, _, _, _, _, _, _, _ => none
  | k + 1, x12, x521000, x521001, x521002, x521003, x521004, x521005, x521006, x521007, x521008 => if x12 = true then (some false) else (if x521000 = 1 then ((damperref05_in.f x521003 0 1073741824).bind fun t523 => (if t523 = true then ((damperref05_in.f x521004 0 1).bind fun t524 => (if t524 = true then ((damperref05_in.f x521005 1 5).bind fun t525 => (if t525 = true then ((damperref05_in.f x521008 0 7).bind fun t526 => (some t526)) else (some false))) else (some false))) else (some false))) else (if x521000 = 2 then (some (x521000 == 2 && (x521003 == 0 && (x521004 == 0 && (x521005 == 0 && (x521006 == 0 && (x521007 == 0 && (x521008 == 0)))))))) else (if x521000 = 3 then (some (x521000 == 3 && (x521003 == 0 && (x521004 == 0 && (x521005 == 0 && (x521008 == 0)))))) else (some false))))
def damperref05_Right.f (k : Nat) (a0_0 : Int) (a0_1 : Int) (a0_2 : Int) (a0_3 : Int) (a0_4 : Int) (a0_5 : Int) (a0_6 : Int) (a0_7 : Int) (a0_8 : Int) : Option (Bool) := (damperref05_in.f a0_1 0 255).bind fun t521 => (if t521 = true then ((damperref05_in.f a0_2 0 4611686018427387904).bind fun t522 => (damperref05_Right.j0 k (!t522) a0_0 a0_1 a0_2 a0_3 a0_4 a0_5 a0_6 a0_7 a0_8)) else (damperref05_Right.j0 k true a0_0 a0_1 a0_2 a0_3 a0_4 a0_5 a0_6 a0_7 a0_8))
theorem damperref05_Right.mono_l : ∀ k, (∀ y0 y1 y2 y3 y4 y5 y6 y7 y8 y9, LeO (damperref05_Right.j0 k y0 y1 y2 y3 y4 y5 y6 y7 y8 y9) (damperref05_Right.j0 (k + 1) y0 y1 y2 y3 y4 y5 y6 y7 y8 y9))
  | 0 => fun _ _ _ _ _ _ _ _ _ _ r h => by simp [damperref05_Right.j0] at h
  | k + 1 => by
    have ih0 := damperref05_Right.mono_l k
    · intro y0 y1 y2 y3 y4 y5 y6 y7 y8 y9
      unfold damperref05_Right.j0
      repeat' first
      | (with_reducible exact ih0 _ _ _ _ _ _ _ _ _ _)
      | (with_reducible exact LeO.refl _)
      | (with_reducible exact LeO.none _)
      | (with_reducible refine LeO.ite ?_ ?_)
      | (with_reducible refine LeO.bind ?_ (fun _ => ?_))
      | exact ih0 _ _ _ _ _ _ _ _ _ _
      | exact LeO.none _
      | refine LeO.ite ?_ ?_
      | refine LeO.bind ?_ (fun _ => ?_)
theorem damperref05_Right.mono : ∀ a0 a1 a2 a3 a4 a5 a6 a7 a8 k, LeO (damperref05_Right.f k a0 a1 a2 a3 a4 a5 a6 a7 a8) (damperref05_Right.f (k + 1) a0 a1 a2 a3 a4 a5 a6 a7 a8) := by
  intro a0 a1 a2 a3 a4 a5 a6 a7 a8 k
  have ih0 := damperref05_Right.mono_l k
  unfold damperref05_Right.f
  repeat' first
      | (with_reducible exact ih0 _ _ _ _ _ _ _ _ _ _)
      | (with_reducible exact LeO.refl _)
      | (with_reducible exact LeO.none _)
      | (with_reducible refine LeO.ite ?_ ?_)
      | (with_reducible refine LeO.bind ?_ (fun _ => ?_))
      | exact ih0 _ _ _ _ _ _ _ _ _ _
      | exact LeO.none _
      | refine LeO.ite ?_ ?_
      | refine LeO.bind ?_ (fun _ => ?_)
set_option maxHeartbeats 8000000 in
set_option maxRecDepth 100000 in
theorem damperref05_Right.calls (k : Nat) (a0_0 : Int) (a0_1 : Int) (a0_2 : Int) (a0_3 : Int) (a0_4 : Int) (a0_5 : Int) (a0_6 : Int) (a0_7 : Int) (a0_8 : Int) (r : Bool) (w : World) (h : damperref05_Right.f k a0_0 a0_1 a0_2 a0_3 a0_4 a0_5 a0_6 a0_7 a0_8 = some r) :
    Calls Try.prog 90 #[.agg #[.int .i64 a0_0, .int .i64 a0_1, .int .i64 a0_2, .int .i64 a0_3, .int .i64 a0_4, .int .i64 a0_5, .int .i64 a0_6, .int .i64 a0_7, .int .i64 a0_8]] w fun e w' => e = .returned (.bool r) ∧ Below w.heap.size w w' := by
  have hu95 := Try.underlying95
  have HB := Aside0.mk (Below.refl w.heap.size w)
  have H : ((damperref05_in.f a0_1 0 255).bind fun t521 => (if t521 = true then ((damperref05_in.f a0_2 0 4611686018427387904).bind fun t522 => (damperref05_Right.j0 k (!t522) a0_0 a0_1 a0_2 a0_3 a0_4 a0_5 a0_6 a0_7 a0_8)) else (damperref05_Right.j0 k true a0_0 a0_1 a0_2 a0_3 a0_4 a0_5 a0_6 a0_7 a0_8))) = some r := h
  clear h
  have HC2 := Aside0.mk H
  clear H
  go_enter Try.func90, Try.ntmps90
  go_upto_region 1 with (first | ((with_reducible refine gate_dst (N := 1) rfl ?_); refine box_event ?hg (N := 1) ?hd (cs := #[.int .i64 a0_0, .int .i64 a0_1, .int .i64 a0_2, .int .i64 a0_3, .int .i64 a0_4, .int .i64 a0_5, .int .i64 a0_6, .int .i64 a0_7, .int .i64 a0_8]) (t := 95) ?hr ?_; (case hd => rfl); (case hg => rfl); (case hr => first | (go_simp; done) | (go_simp; rfl)); intro gb520 hg w3 hbox hb; have n0_ := Aside0.mk (below_step (by repeat (first | (with_reducible first | exact HB.out | apply below_alloc | apply pw_below_drewN | apply below_drew1) | exact HB.out)) hb); have n1_ := Aside0.mk (hbox); have n2_ := Aside0.mk ((by rw [hg]; exact (below_size (by repeat (first | (with_reducible first | exact HB.out | apply below_alloc | apply pw_below_drewN | apply below_drew1) | exact HB.out))) : w.heap.size ≤ gb520)); have n3_ := Aside0.mk ((by rw [hg]; exact (below_size (by repeat (first | (with_reducible first | exact HB.out | apply below_alloc | apply pw_below_drewN | apply below_drew1) | exact HB.out))) : w.heap.size ≤ gb520)); clear HB; have HB := n0_; have BK520 := n1_; have GW520 := n2_; have GE520 := n3_; clear n0_ n1_ n2_ n3_; clear hb hbox hg))
  (try simp only [Act.put, List.setIfInBounds_toArray, List.set_cons_zero, List.set_cons_succ])
  go_cut [12] (fun v12 wc => ∃ (kq : Nat) (x12_1 : Bool), v12 = .bool x12_1 ∧ Aside0 (damperref05_Right.j0 kq x12_1 a0_0 a0_1 a0_2 a0_3 a0_4 a0_5 a0_6 a0_7 a0_8 = some r) ∧ Aside0 (kq ≤ k) ∧ Aside0 (wc.heap[gb520]? = some (.cells #[.int .i64 a0_0, .int .i64 a0_1, .int .i64 a0_2, .int .i64 a0_3, .int .i64 a0_4, .int .i64 a0_5, .int .i64 a0_6, .int .i64 a0_7, .int .i64 a0_8] 95 (0, 0))) ∧ Aside0 (Below w.heap.size w wc))
  case first =>
    have H := HC2.out
    clear HC2
    replace H := Option.bind_eq_some_iff.mp H
    obtain ⟨t521, A40, H⟩ := H
    replace H : (if t521 = true then ((damperref05_in.f a0_2 0 4611686018427387904).bind fun t522 => (damperref05_Right.j0 k (!t522) a0_0 a0_1 a0_2 a0_3 a0_4 a0_5 a0_6 a0_7 a0_8)) else (damperref05_Right.j0 k true a0_0 a0_1 a0_2 a0_3 a0_4 a0_5 a0_6 a0_7 a0_8)) = some r := H
    have A4 := Aside0.mk A40
    clear A40
    by_cases c5 : t521 = true
    · subst c5
      have H1 : ((damperref05_in.f a0_2 0 4611686018427387904).bind fun t522 => (damperref05_Right.j0 k (!t522) a0_0 a0_1 a0_2 a0_3 a0_4 a0_5 a0_6 a0_7 a0_8)) = some r := by rw [if_pos rfl] at H; exact H
      clear H
      have H := H1
      clear H1
      replace H := Option.bind_eq_some_iff.mp H
      obtain ⟨t522, A60, H⟩ := H
      replace H : (damperref05_Right.j0 k (!t522) a0_0 a0_1 a0_2 a0_3 a0_4 a0_5 a0_6 a0_7 a0_8) = some r := H
      have A6 := Aside0.mk A60
      clear A60
      have H' := Aside0.mk H
      clear H
      have hcz7_0 : w3.cell? ⟨gb520, 0, none⟩ = some (.int .i64 a0_0) := (blk_cell BK520.out 0).trans rfl
      have hcz7_1 : w3.cell? ⟨gb520, 1, none⟩ = some (.int .i64 a0_1) := (blk_cell BK520.out 1).trans rfl
      have hcz7_2 : w3.cell? ⟨gb520, 2, none⟩ = some (.int .i64 a0_2) := (blk_cell BK520.out 2).trans rfl
      have hcz7_3 : w3.cell? ⟨gb520, 3, none⟩ = some (.int .i64 a0_3) := (blk_cell BK520.out 3).trans rfl
      have hcz7_4 : w3.cell? ⟨gb520, 4, none⟩ = some (.int .i64 a0_4) := (blk_cell BK520.out 4).trans rfl
      have hcz7_5 : w3.cell? ⟨gb520, 5, none⟩ = some (.int .i64 a0_5) := (blk_cell BK520.out 5).trans rfl
      have hcz7_6 : w3.cell? ⟨gb520, 6, none⟩ = some (.int .i64 a0_6) := (blk_cell BK520.out 6).trans rfl
      have hcz7_7 : w3.cell? ⟨gb520, 7, none⟩ = some (.int .i64 a0_7) := (blk_cell BK520.out 7).trans rfl
      have hcz7_8 : w3.cell? ⟨gb520, 8, none⟩ = some (.int .i64 a0_8) := (blk_cell BK520.out 8).trans rfl
      have hfz7_0 := blk_frozen BK520.out 0
      have hfz7_1 := blk_frozen BK520.out 1
      have hfz7_2 := blk_frozen BK520.out 2
      have hfz7_3 := blk_frozen BK520.out 3
      have hfz7_4 := blk_frozen BK520.out 4
      have hfz7_5 := blk_frozen BK520.out 5
      have hfz7_6 := blk_frozen BK520.out 6
      have hfz7_7 := blk_frozen BK520.out 7
      have hfz7_8 := blk_frozen BK520.out 8
      go_wp2_with (first | ((with_reducible refine gate_callee (f := 130) rfl ?_); refine goesL_ (some 5) rfl rfl Try.func130 (by kernel_rfl) rfl #[.int .i64 a0_1, .int .i64 0, .int .i64 255] rfl (by (try simp only [List.map_toArray, List.map_cons, List.map_nil]); first | done | rfl | (simp only [List.length_drop, List.length_take]; rfl)) ?_; (with_reducible refine (damperref05_in.calls a0_1 0 255 true _ A4.out).mono ?_); rintro e w' ⟨rfl, ⟨nd, rfl⟩⟩; refine ⟨_, rfl, ?_⟩) | (go_at_call 130; (with_reducible refine (damperref05_in.calls a0_2 0 4611686018427387904 t522 _ A6.out).mono ?_); rintro e w' ⟨rfl, ⟨nd, rfl⟩⟩))
      go_meet
      case rel => exact ⟨_, (!t522), (by first | rfl | (simp; done) | (simp [*]; done)), H', ⟨by first | omega | exact Nat.le_refl _⟩, ⟨by (with_reducible repeat (first | refine blk_drewN ?_ _ | refine blk_drew ?_ | refine blk_alloc ?_ _)); exact BK520.out⟩, ⟨by repeat (first | (with_reducible first | exact HB.out | apply below_alloc | apply pw_below_drewN | apply below_drew1 | refine below_set ?_ GE520.out) | exact HB.out)⟩⟩
    · replace c5 := Bool.eq_false_iff.mpr c5
      subst c5
      have H1 : (damperref05_Right.j0 k true a0_0 a0_1 a0_2 a0_3 a0_4 a0_5 a0_6 a0_7 a0_8) = some r := by rw [if_neg (show ¬ (false = true) by decide)] at H; exact H
      clear H
      have H := H1
      clear H1
      have H' := Aside0.mk H
      clear H
      have hcz8_0 : w3.cell? ⟨gb520, 0, none⟩ = some (.int .i64 a0_0) := (blk_cell BK520.out 0).trans rfl
      have hcz8_1 : w3.cell? ⟨gb520, 1, none⟩ = some (.int .i64 a0_1) := (blk_cell BK520.out 1).trans rfl
      have hcz8_2 : w3.cell? ⟨gb520, 2, none⟩ = some (.int .i64 a0_2) := (blk_cell BK520.out 2).trans rfl
      have hcz8_3 : w3.cell? ⟨gb520, 3, none⟩ = some (.int .i64 a0_3) := (blk_cell BK520.out 3).trans rfl
      have hcz8_4 : w3.cell? ⟨gb520, 4, none⟩ = some (.int .i64 a0_4) := (blk_cell BK520.out 4).trans rfl
      have hcz8_5 : w3.cell? ⟨gb520, 5, none⟩ = some (.int .i64 a0_5) := (blk_cell BK520.out 5).trans rfl
      have hcz8_6 : w3.cell? ⟨gb520, 6, none⟩ = some (.int .i64 a0_6) := (blk_cell BK520.out 6).trans rfl
      have hcz8_7 : w3.cell? ⟨gb520, 7, none⟩ = some (.int .i64 a0_7) := (blk_cell BK520.out 7).trans rfl
      have hcz8_8 : w3.cell? ⟨gb520, 8, none⟩ = some (.int .i64 a0_8) := (blk_cell BK520.out 8).trans rfl
      have hfz8_0 := blk_frozen BK520.out 0
      have hfz8_1 := blk_frozen BK520.out 1
      have hfz8_2 := blk_frozen BK520.out 2
      have hfz8_3 := blk_frozen BK520.out 3
      have hfz8_4 := blk_frozen BK520.out 4
      have hfz8_5 := blk_frozen BK520.out 5
      have hfz8_6 := blk_frozen BK520.out 6
      have hfz8_7 := blk_frozen BK520.out 7
      have hfz8_8 := blk_frozen BK520.out 8
      go_wp2_with (first | ((with_reducible refine gate_callee (f := 130) rfl ?_); refine goesL_ (some 5) rfl rfl Try.func130 (by kernel_rfl) rfl #[.int .i64 a0_1, .int .i64 0, .int .i64 255] rfl (by (try simp only [List.map_toArray, List.map_cons, List.map_nil]); first | done | rfl | (simp only [List.length_drop, List.length_take]; rfl)) ?_; (with_reducible refine (damperref05_in.calls a0_1 0 255 false _ A4.out).mono ?_); rintro e w' ⟨rfl, ⟨nd, rfl⟩⟩; refine ⟨_, rfl, ?_⟩))
      go_meet
      case rel => exact ⟨_, (true), (by first | rfl | (simp; done) | (simp [*]; done)), H', ⟨by first | omega | exact Nat.le_refl _⟩, ⟨by (with_reducible repeat (first | refine blk_drewN ?_ _ | refine blk_drew ?_ | refine blk_alloc ?_ _)); exact BK520.out⟩, ⟨by repeat (first | (with_reducible first | exact HB.out | apply below_alloc | apply pw_below_drewN | apply below_drew1 | refine below_set ?_ GE520.out) | exact HB.out)⟩⟩
  case rest =>
    clear HC2
    try clear c1
    try clear p2
    try clear c5
    try clear hcz7_0
    try clear hcz7_1
    try clear hcz7_2
    try clear hcz7_3
    try clear hcz7_4
    try clear hcz7_5
    try clear hcz7_6
    try clear hcz7_7
    try clear hcz7_8
    try clear hcz8_0
    try clear hcz8_1
    try clear hcz8_2
    try clear hcz8_3
    try clear hcz8_4
    try clear hcz8_5
    try clear hcz8_6
    try clear hcz8_7
    try clear hcz8_8
    try clear hfz7_0
    try clear hfz7_1
    try clear hfz7_2
    try clear hfz7_3
    try clear hfz7_4
    try clear hfz7_5
    try clear hfz7_6
    try clear hfz7_7
    try clear hfz7_8
    try clear hfz8_0
    try clear hfz8_1
    try clear hfz8_2
    try clear hfz8_3
    try clear hfz8_4
    try clear hfz8_5
    try clear hfz8_6
    try clear hfz8_7
    try clear hfz8_8
    obtain ⟨kq, x12_1, rfl, HA, HJ1, BK520, HB⟩ := hcut
    cases kq with
    | zero => exact absurd HA.out (by simp [damperref05_Right.j0])
    | succ kj1 =>
      have H := HA.out
      clear HA
      simp only [damperref05_Right.j0] at H
      by_cases c9 : x12_1 = true
      · subst c9
        have H1 : (some false) = some r := by rw [if_pos rfl] at H; exact H
        clear H
        have H := H1
        clear H1
        obtain rfl := Option.some.inj H
        go_wp2
        go_ret
        exact ⟨by first | rfl | (simp [errW_none, errW_some] <;> rfl) | (simp [*, errW_none, errW_some] <;> rfl), by repeat (first | (with_reducible first | exact HB.out | apply below_alloc | apply pw_below_drewN | apply below_drew1 | refine below_set ?_ GE520.out) | exact HB.out)⟩
      · replace c9 := Bool.eq_false_iff.mpr c9
        subst c9
        have H1 : (if a0_0 = 1 then ((damperref05_in.f a0_3 0 1073741824).bind fun t523 => (if t523 = true then ((damperref05_in.f a0_4 0 1).bind fun t524 => (if t524 = true then ((damperref05_in.f a0_5 1 5).bind fun t525 => (if t525 = true then ((damperref05_in.f a0_8 0 7).bind fun t526 => (some t526)) else (some false))) else (some false))) else (some false))) else (if a0_0 = 2 then (some (a0_0 == 2 && (a0_3 == 0 && (a0_4 == 0 && (a0_5 == 0 && (a0_6 == 0 && (a0_7 == 0 && (a0_8 == 0)))))))) else (if a0_0 = 3 then (some (a0_0 == 3 && (a0_3 == 0 && (a0_4 == 0 && (a0_5 == 0 && (a0_8 == 0)))))) else (some false)))) = some r := by rw [if_neg (show ¬ (false = true) by decide)] at H; exact H
        clear H
        have H := H1
        clear H1
        by_cases c10 : a0_0 = 1
        · rw [if_pos c10] at H
          have c10b0 : (a0_0 == 1) = true := beq_iff_eq.mpr c10
          have c10b1 : (a0_0 != 1) = false := bne_eq_false_iff_eq.mpr c10
          clear c10
          replace H := Option.bind_eq_some_iff.mp H
          obtain ⟨t523, A110, H⟩ := H
          replace H : (if t523 = true then ((damperref05_in.f a0_4 0 1).bind fun t524 => (if t524 = true then ((damperref05_in.f a0_5 1 5).bind fun t525 => (if t525 = true then ((damperref05_in.f a0_8 0 7).bind fun t526 => (some t526)) else (some false))) else (some false))) else (some false)) = some r := H
          have A11 := Aside0.mk A110
          clear A110
          by_cases c12 : t523 = true
          · subst c12
            have H1 : ((damperref05_in.f a0_4 0 1).bind fun t524 => (if t524 = true then ((damperref05_in.f a0_5 1 5).bind fun t525 => (if t525 = true then ((damperref05_in.f a0_8 0 7).bind fun t526 => (some t526)) else (some false))) else (some false))) = some r := by rw [if_pos rfl] at H; exact H
            clear H
            have H := H1
            clear H1
            replace H := Option.bind_eq_some_iff.mp H
            obtain ⟨t524, A130, H⟩ := H
            replace H : (if t524 = true then ((damperref05_in.f a0_5 1 5).bind fun t525 => (if t525 = true then ((damperref05_in.f a0_8 0 7).bind fun t526 => (some t526)) else (some false))) else (some false)) = some r := H
            have A13 := Aside0.mk A130
            clear A130
            by_cases c14 : t524 = true
            · subst c14
              have H1 : ((damperref05_in.f a0_5 1 5).bind fun t525 => (if t525 = true then ((damperref05_in.f a0_8 0 7).bind fun t526 => (some t526)) else (some false))) = some r := by rw [if_pos rfl] at H; exact H
              clear H
              have H := H1
              clear H1
              replace H := Option.bind_eq_some_iff.mp H
              obtain ⟨t525, A150, H⟩ := H
              replace H : (if t525 = true then ((damperref05_in.f a0_8 0 7).bind fun t526 => (some t526)) else (some false)) = some r := H
              have A15 := Aside0.mk A150
              clear A150
              by_cases c16 : t525 = true
              · subst c16
                have H1 : ((damperref05_in.f a0_8 0 7).bind fun t526 => (some t526)) = some r := by rw [if_pos rfl] at H; exact H
                clear H
                have H := H1
                clear H1
                replace H := Option.bind_eq_some_iff.mp H
                obtain ⟨t526, A170, H⟩ := H
                replace H : (some t526) = some r := H
                have A17 := Aside0.mk A170
                clear A170
                obtain rfl := Option.some.inj H
                have hcz18_0 : wc.cell? ⟨gb520, 0, none⟩ = some (.int .i64 a0_0) := (blk_cell BK520.out 0).trans rfl
                have hcz18_1 : wc.cell? ⟨gb520, 1, none⟩ = some (.int .i64 a0_1) := (blk_cell BK520.out 1).trans rfl
                have hcz18_2 : wc.cell? ⟨gb520, 2, none⟩ = some (.int .i64 a0_2) := (blk_cell BK520.out 2).trans rfl
                have hcz18_3 : wc.cell? ⟨gb520, 3, none⟩ = some (.int .i64 a0_3) := (blk_cell BK520.out 3).trans rfl
                have hcz18_4 : wc.cell? ⟨gb520, 4, none⟩ = some (.int .i64 a0_4) := (blk_cell BK520.out 4).trans rfl
                have hcz18_5 : wc.cell? ⟨gb520, 5, none⟩ = some (.int .i64 a0_5) := (blk_cell BK520.out 5).trans rfl
                have hcz18_6 : wc.cell? ⟨gb520, 6, none⟩ = some (.int .i64 a0_6) := (blk_cell BK520.out 6).trans rfl
                have hcz18_7 : wc.cell? ⟨gb520, 7, none⟩ = some (.int .i64 a0_7) := (blk_cell BK520.out 7).trans rfl
                have hcz18_8 : wc.cell? ⟨gb520, 8, none⟩ = some (.int .i64 a0_8) := (blk_cell BK520.out 8).trans rfl
                have hfz18_0 := blk_frozen BK520.out 0
                have hfz18_1 := blk_frozen BK520.out 1
                have hfz18_2 := blk_frozen BK520.out 2
                have hfz18_3 := blk_frozen BK520.out 3
                have hfz18_4 := blk_frozen BK520.out 4
                have hfz18_5 := blk_frozen BK520.out 5
                have hfz18_6 := blk_frozen BK520.out 6
                have hfz18_7 := blk_frozen BK520.out 7
                have hfz18_8 := blk_frozen BK520.out 8
                go_wp2_with (first | ((with_reducible refine gate_callee (f := 130) rfl ?_); refine goesL_ (some 19) rfl rfl Try.func130 (by kernel_rfl) rfl #[.int .i64 a0_3, .int .i64 0, .int .i64 1073741824] rfl (by (try simp only [List.map_toArray, List.map_cons, List.map_nil]); first | done | rfl | (simp only [List.length_drop, List.length_take]; rfl)) ?_; (with_reducible refine (damperref05_in.calls a0_3 0 1073741824 true _ A11.out).mono ?_); rintro e w' ⟨rfl, ⟨nd, rfl⟩⟩; refine ⟨_, rfl, ?_⟩) | (go_at_call 130; (with_reducible refine (damperref05_in.calls a0_4 0 1 true _ A13.out).mono ?_); rintro e w' ⟨rfl, ⟨nd, rfl⟩⟩) | (go_at_call 130; (with_reducible refine (damperref05_in.calls a0_5 1 5 true _ A15.out).mono ?_); rintro e w' ⟨rfl, ⟨nd, rfl⟩⟩) | (go_at_call 130; (with_reducible refine (damperref05_in.calls a0_8 0 7 t526 _ A17.out).mono ?_); rintro e w' ⟨rfl, ⟨nd, rfl⟩⟩))
                go_ret
                exact ⟨by first | rfl | (simp [errW_none, errW_some] <;> rfl) | (simp [*, errW_none, errW_some] <;> rfl), by repeat (first | (with_reducible first | exact HB.out | apply below_alloc | apply pw_below_drewN | apply below_drew1 | refine below_set ?_ GE520.out) | exact HB.out)⟩
              · replace c16 := Bool.eq_false_iff.mpr c16
                subst c16
                have H1 : (some false) = some r := by rw [if_neg (show ¬ (false = true) by decide)] at H; exact H
                clear H
                have H := H1
                clear H1
                obtain rfl := Option.some.inj H
                have hcz19_0 : wc.cell? ⟨gb520, 0, none⟩ = some (.int .i64 a0_0) := (blk_cell BK520.out 0).trans rfl
                have hcz19_1 : wc.cell? ⟨gb520, 1, none⟩ = some (.int .i64 a0_1) := (blk_cell BK520.out 1).trans rfl
                have hcz19_2 : wc.cell? ⟨gb520, 2, none⟩ = some (.int .i64 a0_2) := (blk_cell BK520.out 2).trans rfl
                have hcz19_3 : wc.cell? ⟨gb520, 3, none⟩ = some (.int .i64 a0_3) := (blk_cell BK520.out 3).trans rfl
                have hcz19_4 : wc.cell? ⟨gb520, 4, none⟩ = some (.int .i64 a0_4) := (blk_cell BK520.out 4).trans rfl
                have hcz19_5 : wc.cell? ⟨gb520, 5, none⟩ = some (.int .i64 a0_5) := (blk_cell BK520.out 5).trans rfl
                have hcz19_6 : wc.cell? ⟨gb520, 6, none⟩ = some (.int .i64 a0_6) := (blk_cell BK520.out 6).trans rfl
                have hcz19_7 : wc.cell? ⟨gb520, 7, none⟩ = some (.int .i64 a0_7) := (blk_cell BK520.out 7).trans rfl
                have hcz19_8 : wc.cell? ⟨gb520, 8, none⟩ = some (.int .i64 a0_8) := (blk_cell BK520.out 8).trans rfl
                have hfz19_0 := blk_frozen BK520.out 0
                have hfz19_1 := blk_frozen BK520.out 1
                have hfz19_2 := blk_frozen BK520.out 2
                have hfz19_3 := blk_frozen BK520.out 3
                have hfz19_4 := blk_frozen BK520.out 4
                have hfz19_5 := blk_frozen BK520.out 5
                have hfz19_6 := blk_frozen BK520.out 6
                have hfz19_7 := blk_frozen BK520.out 7
                have hfz19_8 := blk_frozen BK520.out 8
                go_wp2_with (first | ((with_reducible refine gate_callee (f := 130) rfl ?_); refine goesL_ (some 19) rfl rfl Try.func130 (by kernel_rfl) rfl #[.int .i64 a0_3, .int .i64 0, .int .i64 1073741824] rfl (by (try simp only [List.map_toArray, List.map_cons, List.map_nil]); first | done | rfl | (simp only [List.length_drop, List.length_take]; rfl)) ?_; (with_reducible refine (damperref05_in.calls a0_3 0 1073741824 true _ A11.out).mono ?_); rintro e w' ⟨rfl, ⟨nd, rfl⟩⟩; refine ⟨_, rfl, ?_⟩) | (go_at_call 130; (with_reducible refine (damperref05_in.calls a0_4 0 1 true _ A13.out).mono ?_); rintro e w' ⟨rfl, ⟨nd, rfl⟩⟩) | (go_at_call 130; (with_reducible refine (damperref05_in.calls a0_5 1 5 false _ A15.out).mono ?_); rintro e w' ⟨rfl, ⟨nd, rfl⟩⟩))
                go_ret
                exact ⟨by first | rfl | (simp [errW_none, errW_some] <;> rfl) | (simp [*, errW_none, errW_some] <;> rfl), by repeat (first | (with_reducible first | exact HB.out | apply below_alloc | apply pw_below_drewN | apply below_drew1 | refine below_set ?_ GE520.out) | exact HB.out)⟩
            · replace c14 := Bool.eq_false_iff.mpr c14
              subst c14
              have H1 : (some false) = some r := by rw [if_neg (show ¬ (false = true) by decide)] at H; exact H
              clear H
              have H := H1
              clear H1
              obtain rfl := Option.some.inj H
              have hcz20_0 : wc.cell? ⟨gb520, 0, none⟩ = some (.int .i64 a0_0) := (blk_cell BK520.out 0).trans rfl
              have hcz20_1 : wc.cell? ⟨gb520, 1, none⟩ = some (.int .i64 a0_1) := (blk_cell BK520.out 1).trans rfl
              have hcz20_2 : wc.cell? ⟨gb520, 2, none⟩ = some (.int .i64 a0_2) := (blk_cell BK520.out 2).trans rfl
              have hcz20_3 : wc.cell? ⟨gb520, 3, none⟩ = some (.int .i64 a0_3) := (blk_cell BK520.out 3).trans rfl
              have hcz20_4 : wc.cell? ⟨gb520, 4, none⟩ = some (.int .i64 a0_4) := (blk_cell BK520.out 4).trans rfl
              have hcz20_5 : wc.cell? ⟨gb520, 5, none⟩ = some (.int .i64 a0_5) := (blk_cell BK520.out 5).trans rfl
              have hcz20_6 : wc.cell? ⟨gb520, 6, none⟩ = some (.int .i64 a0_6) := (blk_cell BK520.out 6).trans rfl
              have hcz20_7 : wc.cell? ⟨gb520, 7, none⟩ = some (.int .i64 a0_7) := (blk_cell BK520.out 7).trans rfl
              have hcz20_8 : wc.cell? ⟨gb520, 8, none⟩ = some (.int .i64 a0_8) := (blk_cell BK520.out 8).trans rfl
              have hfz20_0 := blk_frozen BK520.out 0
              have hfz20_1 := blk_frozen BK520.out 1
              have hfz20_2 := blk_frozen BK520.out 2
              have hfz20_3 := blk_frozen BK520.out 3
              have hfz20_4 := blk_frozen BK520.out 4
              have hfz20_5 := blk_frozen BK520.out 5
              have hfz20_6 := blk_frozen BK520.out 6
              have hfz20_7 := blk_frozen BK520.out 7
              have hfz20_8 := blk_frozen BK520.out 8
              go_wp2_with (first | ((with_reducible refine gate_callee (f := 130) rfl ?_); refine goesL_ (some 19) rfl rfl Try.func130 (by kernel_rfl) rfl #[.int .i64 a0_3, .int .i64 0, .int .i64 1073741824] rfl (by (try simp only [List.map_toArray, List.map_cons, List.map_nil]); first | done | rfl | (simp only [List.length_drop, List.length_take]; rfl)) ?_; (with_reducible refine (damperref05_in.calls a0_3 0 1073741824 true _ A11.out).mono ?_); rintro e w' ⟨rfl, ⟨nd, rfl⟩⟩; refine ⟨_, rfl, ?_⟩) | (go_at_call 130; (with_reducible refine (damperref05_in.calls a0_4 0 1 false _ A13.out).mono ?_); rintro e w' ⟨rfl, ⟨nd, rfl⟩⟩))
              go_ret
              exact ⟨by first | rfl | (simp [errW_none, errW_some] <;> rfl) | (simp [*, errW_none, errW_some] <;> rfl), by repeat (first | (with_reducible first | exact HB.out | apply below_alloc | apply pw_below_drewN | apply below_drew1 | refine below_set ?_ GE520.out) | exact HB.out)⟩
          · replace c12 := Bool.eq_false_iff.mpr c12
            subst c12
            have H1 : (some false) = some r := by rw [if_neg (show ¬ (false = true) by decide)] at H; exact H
            clear H
            have H := H1
            clear H1
            obtain rfl := Option.some.inj H
            have hcz21_0 : wc.cell? ⟨gb520, 0, none⟩ = some (.int .i64 a0_0) := (blk_cell BK520.out 0).trans rfl
            have hcz21_1 : wc.cell? ⟨gb520, 1, none⟩ = some (.int .i64 a0_1) := (blk_cell BK520.out 1).trans rfl
            have hcz21_2 : wc.cell? ⟨gb520, 2, none⟩ = some (.int .i64 a0_2) := (blk_cell BK520.out 2).trans rfl
            have hcz21_3 : wc.cell? ⟨gb520, 3, none⟩ = some (.int .i64 a0_3) := (blk_cell BK520.out 3).trans rfl
            have hcz21_4 : wc.cell? ⟨gb520, 4, none⟩ = some (.int .i64 a0_4) := (blk_cell BK520.out 4).trans rfl
            have hcz21_5 : wc.cell? ⟨gb520, 5, none⟩ = some (.int .i64 a0_5) := (blk_cell BK520.out 5).trans rfl
            have hcz21_6 : wc.cell? ⟨gb520, 6, none⟩ = some (.int .i64 a0_6) := (blk_cell BK520.out 6).trans rfl
            have hcz21_7 : wc.cell? ⟨gb520, 7, none⟩ = some (.int .i64 a0_7) := (blk_cell BK520.out 7).trans rfl
            have hcz21_8 : wc.cell? ⟨gb520, 8, none⟩ = some (.int .i64 a0_8) := (blk_cell BK520.out 8).trans rfl
            have hfz21_0 := blk_frozen BK520.out 0
            have hfz21_1 := blk_frozen BK520.out 1
            have hfz21_2 := blk_frozen BK520.out 2
            have hfz21_3 := blk_frozen BK520.out 3
            have hfz21_4 := blk_frozen BK520.out 4
            have hfz21_5 := blk_frozen BK520.out 5
            have hfz21_6 := blk_frozen BK520.out 6
            have hfz21_7 := blk_frozen BK520.out 7
            have hfz21_8 := blk_frozen BK520.out 8
            go_wp2_with (first | ((with_reducible refine gate_callee (f := 130) rfl ?_); refine goesL_ (some 19) rfl rfl Try.func130 (by kernel_rfl) rfl #[.int .i64 a0_3, .int .i64 0, .int .i64 1073741824] rfl (by (try simp only [List.map_toArray, List.map_cons, List.map_nil]); first | done | rfl | (simp only [List.length_drop, List.length_take]; rfl)) ?_; (with_reducible refine (damperref05_in.calls a0_3 0 1073741824 false _ A11.out).mono ?_); rintro e w' ⟨rfl, ⟨nd, rfl⟩⟩; refine ⟨_, rfl, ?_⟩))
            go_ret
            exact ⟨by first | rfl | (simp [errW_none, errW_some] <;> rfl) | (simp [*, errW_none, errW_some] <;> rfl), by repeat (first | (with_reducible first | exact HB.out | apply below_alloc | apply pw_below_drewN | apply below_drew1 | refine below_set ?_ GE520.out) | exact HB.out)⟩
        · rw [if_neg c10] at H
          have c10b0 : (a0_0 == 1) = false := beq_eq_false_iff_ne.mpr c10
          have c10b1 : (a0_0 != 1) = true := bne_iff_ne.mpr c10
          by_cases c22 : a0_0 = 2
          · rw [if_pos c22] at H
            have c22b0 : (a0_0 == 2) = true := beq_iff_eq.mpr c22
            have c22b1 : (a0_0 != 2) = false := bne_eq_false_iff_eq.mpr c22
            clear c22
            obtain rfl := Option.some.inj H
            have hcz23_0 : wc.cell? ⟨gb520, 0, none⟩ = some (.int .i64 a0_0) := (blk_cell BK520.out 0).trans rfl
            have hcz23_1 : wc.cell? ⟨gb520, 1, none⟩ = some (.int .i64 a0_1) := (blk_cell BK520.out 1).trans rfl
            have hcz23_2 : wc.cell? ⟨gb520, 2, none⟩ = some (.int .i64 a0_2) := (blk_cell BK520.out 2).trans rfl
            have hcz23_3 : wc.cell? ⟨gb520, 3, none⟩ = some (.int .i64 a0_3) := (blk_cell BK520.out 3).trans rfl
            have hcz23_4 : wc.cell? ⟨gb520, 4, none⟩ = some (.int .i64 a0_4) := (blk_cell BK520.out 4).trans rfl
            have hcz23_5 : wc.cell? ⟨gb520, 5, none⟩ = some (.int .i64 a0_5) := (blk_cell BK520.out 5).trans rfl
            have hcz23_6 : wc.cell? ⟨gb520, 6, none⟩ = some (.int .i64 a0_6) := (blk_cell BK520.out 6).trans rfl
            have hcz23_7 : wc.cell? ⟨gb520, 7, none⟩ = some (.int .i64 a0_7) := (blk_cell BK520.out 7).trans rfl
            have hcz23_8 : wc.cell? ⟨gb520, 8, none⟩ = some (.int .i64 a0_8) := (blk_cell BK520.out 8).trans rfl
            have hfz23_0 := blk_frozen BK520.out 0
            have hfz23_1 := blk_frozen BK520.out 1
            have hfz23_2 := blk_frozen BK520.out 2
            have hfz23_3 := blk_frozen BK520.out 3
            have hfz23_4 := blk_frozen BK520.out 4
            have hfz23_5 := blk_frozen BK520.out 5
            have hfz23_6 := blk_frozen BK520.out 6
            have hfz23_7 := blk_frozen BK520.out 7
            have hfz23_8 := blk_frozen BK520.out 8
            go_wp2
            go_ret
            exact ⟨by first | rfl | (simp [errW_none, errW_some] <;> rfl) | (simp [*, errW_none, errW_some] <;> rfl), by repeat (first | (with_reducible first | exact HB.out | apply below_alloc | apply pw_below_drewN | apply below_drew1 | refine below_set ?_ GE520.out) | exact HB.out)⟩
          · rw [if_neg c22] at H
            have c22b0 : (a0_0 == 2) = false := beq_eq_false_iff_ne.mpr c22
            have c22b1 : (a0_0 != 2) = true := bne_iff_ne.mpr c22
            by_cases c24 : a0_0 = 3
            · rw [if_pos c24] at H
              have c24b0 : (a0_0 == 3) = true := beq_iff_eq.mpr c24
              have c24b1 : (a0_0 != 3) = false := bne_eq_false_iff_eq.mpr c24
              clear c24
              obtain rfl := Option.some.inj H
              have hcz25_0 : wc.cell? ⟨gb520, 0, none⟩ = some (.int .i64 a0_0) := (blk_cell BK520.out 0).trans rfl
              have hcz25_1 : wc.cell? ⟨gb520, 1, none⟩ = some (.int .i64 a0_1) := (blk_cell BK520.out 1).trans rfl
              have hcz25_2 : wc.cell? ⟨gb520, 2, none⟩ = some (.int .i64 a0_2) := (blk_cell BK520.out 2).trans rfl
              have hcz25_3 : wc.cell? ⟨gb520, 3, none⟩ = some (.int .i64 a0_3) := (blk_cell BK520.out 3).trans rfl
              have hcz25_4 : wc.cell? ⟨gb520, 4, none⟩ = some (.int .i64 a0_4) := (blk_cell BK520.out 4).trans rfl
              have hcz25_5 : wc.cell? ⟨gb520, 5, none⟩ = some (.int .i64 a0_5) := (blk_cell BK520.out 5).trans rfl
              have hcz25_6 : wc.cell? ⟨gb520, 6, none⟩ = some (.int .i64 a0_6) := (blk_cell BK520.out 6).trans rfl
              have hcz25_7 : wc.cell? ⟨gb520, 7, none⟩ = some (.int .i64 a0_7) := (blk_cell BK520.out 7).trans rfl
              have hcz25_8 : wc.cell? ⟨gb520, 8, none⟩ = some (.int .i64 a0_8) := (blk_cell BK520.out 8).trans rfl
              have hfz25_0 := blk_frozen BK520.out 0
              have hfz25_1 := blk_frozen BK520.out 1
              have hfz25_2 := blk_frozen BK520.out 2
              have hfz25_3 := blk_frozen BK520.out 3
              have hfz25_4 := blk_frozen BK520.out 4
              have hfz25_5 := blk_frozen BK520.out 5
              have hfz25_6 := blk_frozen BK520.out 6
              have hfz25_7 := blk_frozen BK520.out 7
              have hfz25_8 := blk_frozen BK520.out 8
              go_wp2
              go_ret
              exact ⟨by first | rfl | (simp [errW_none, errW_some] <;> rfl) | (simp [*, errW_none, errW_some] <;> rfl), by repeat (first | (with_reducible first | exact HB.out | apply below_alloc | apply pw_below_drewN | apply below_drew1 | refine below_set ?_ GE520.out) | exact HB.out)⟩
            · rw [if_neg c24] at H
              have c24b0 : (a0_0 == 3) = false := beq_eq_false_iff_ne.mpr c24
              have c24b1 : (a0_0 != 3) = true := bne_iff_ne.mpr c24
              obtain rfl := Option.some.inj H
              have hcz26_0 : wc.cell? ⟨gb520, 0, none⟩ = some (.int .i64 a0_0) := (blk_cell BK520.out 0).trans rfl
              have hcz26_1 : wc.cell? ⟨gb520, 1, none⟩ = some (.int .i64 a0_1) := (blk_cell BK520.out 1).trans rfl
              have hcz26_2 : wc.cell? ⟨gb520, 2, none⟩ = some (.int .i64 a0_2) := (blk_cell BK520.out 2).trans rfl
              have hcz26_3 : wc.cell? ⟨gb520, 3, none⟩ = some (.int .i64 a0_3) := (blk_cell BK520.out 3).trans rfl
              have hcz26_4 : wc.cell? ⟨gb520, 4, none⟩ = some (.int .i64 a0_4) := (blk_cell BK520.out 4).trans rfl
              have hcz26_5 : wc.cell? ⟨gb520, 5, none⟩ = some (.int .i64 a0_5) := (blk_cell BK520.out 5).trans rfl
              have hcz26_6 : wc.cell? ⟨gb520, 6, none⟩ = some (.int .i64 a0_6) := (blk_cell BK520.out 6).trans rfl
              have hcz26_7 : wc.cell? ⟨gb520, 7, none⟩ = some (.int .i64 a0_7) := (blk_cell BK520.out 7).trans rfl
              have hcz26_8 : wc.cell? ⟨gb520, 8, none⟩ = some (.int .i64 a0_8) := (blk_cell BK520.out 8).trans rfl
              have hfz26_0 := blk_frozen BK520.out 0
              have hfz26_1 := blk_frozen BK520.out 1
              have hfz26_2 := blk_frozen BK520.out 2
              have hfz26_3 := blk_frozen BK520.out 3
              have hfz26_4 := blk_frozen BK520.out 4
              have hfz26_5 := blk_frozen BK520.out 5
              have hfz26_6 := blk_frozen BK520.out 6
              have hfz26_7 := blk_frozen BK520.out 7
              have hfz26_8 := blk_frozen BK520.out 8
              go_wp2
              go_ret
              exact ⟨by first | rfl | (simp [errW_none, errW_some] <;> rfl) | (simp [*, errW_none, errW_some] <;> rfl), by repeat (first | (with_reducible first | exact HB.out | apply below_alloc | apply pw_below_drewN | apply below_drew1 | refine below_set ?_ GE520.out) | exact HB.out)⟩

end Go.Proofs.Ytalpemoodollpaa.P
