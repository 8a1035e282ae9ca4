/- Frames, the spec functions of octets, small facts. -/
import Derived.Test.YtalpemoodollpaaP0
import Derived.WalkSpells
namespace Go.Proofs.Ytalpemoodollpaa.P
open Go.RowKit Go.Proofs.YtalpemoodollpaaW.PrintWords Go.Proofs.YtalpemoodollpaaW.PrintLast Go.Proofs.YtalpemoodollpaaW.PrintMore
set_option linter.unusedVariables false
set_option linter.unusedSimpArgs false

/-- The world w' is w, but for the blocks of S (and what is new). -/
structure Fr (w w' : World) (S : Nat → Prop) : Prop where
  os : w'.os = w.os
  tape : w'.tape = w.tape
  output : w'.output = w.output
  size : w.heap.size ≤ w'.heap.size
  block : ∀ k, k < w.heap.size → ¬ S k → w'.heap[k]? = w.heap[k]?

namespace Fr
variable {w w1 w2 : World} {S S1 : Nat → Prop}
theorem refl (w : World) (S : Nat → Prop) : Fr w w S := ⟨rfl, rfl, rfl, Nat.le_refl _, fun _ _ _ => rfl⟩
theorem of_below (h : Below w.heap.size w w1) (S : Nat → Prop) : Fr w w1 S := ⟨h.os, h.tape, h.output, h.size, fun k hk _ => h.block k hk⟩
theorem below (h : Fr w w1 S) {B : Nat} (hB : B ≤ w.heap.size) (hs : ∀ k, S k → B ≤ k) : Below B w w1 :=
  ⟨h.os, h.tape, h.output, h.size, fun k hk => h.block k (by omega) (fun hS => by have := hs k hS; omega)⟩
theorem mono (h : Fr w w1 S) (hs : ∀ k, k < w.heap.size → S k → S1 k) : Fr w w1 S1 := ⟨h.os, h.tape, h.output, h.size, fun k hk hn => h.block k hk (fun h2 => hn (hs k hk h2))⟩
theorem trans (h : Fr w w1 S) (k : Fr w1 w2 S1) (hs : ∀ k, k < w.heap.size → S1 k → S k) : Fr w w2 S :=
  ⟨k.os.trans h.os, k.tape.trans h.tape, k.output.trans h.output, Nat.le_trans h.size k.size,
    fun i hi hn => (k.block i (Nat.lt_of_lt_of_le hi h.size) (fun h2 => hn (hs i hi h2))).trans (h.block i hi hn)⟩
theorem alloc (h : Fr w w1 S) (o : Obj) : Fr w (w1.alloc o) S := h.trans (of_below (below_alloc (Below.refl _ _) o) S) (fun _ _ h => h)
theorem drew (h : Fr w w1 S) : Fr w w1.drew S := ⟨h.os, h.tape, h.output, h.size, h.block⟩
theorem drewN (h : Fr w w1 S) (m : Nat) : Fr w (w1.drewN m) S := ⟨h.os, h.tape, h.output, h.size, h.block⟩
theorem grown (h : Fr w w1 S) {row : Option Nat} (hg : w1.grownBy w2 row) (hr : ∀ k, k < w.heap.size → row = some k → S k) : Fr w w2 S :=
  ⟨hg.os.trans h.os, hg.tape.trans h.tape, hg.output.trans h.output, Nat.le_trans h.size hg.size,
    fun i hi hn => (hg.block i (Nat.lt_of_lt_of_le hi h.size) (fun e => hn (hr i hi e.symm))).trans (h.block i hi hn)⟩
theorem setCell (h : Fr w w1 S) (p : Addr) (u : Value) (hp : p.block < w.heap.size → S p.block) : Fr w (w1.setCell p u) S :=
  ⟨h.os, h.tape, h.output, by simpa [World.setCell] using h.size,
    fun i hi hn => (Below.heap_setCell w1 p u i (fun e => hn (by rw [e]; exact hp (by omega)))).trans (h.block i hi hn)⟩
theorem blk (h : Fr w w1 S) {g : Nat} {o : Obj} (hb : w.heap[g]? = some o) (hn : ¬ S g) : w1.heap[g]? = some o := (h.block g (blk_lt hb) hn).trans hb
theorem own (h : Fr w w1 S) {base : Nat} {e : TypeId} {size n : Nat} {v : Value} {xs : List Value} (ho : w.ownsRow base e size v n xs) (hn : ∀ k, v.ownBlock = some k → ¬ S k) : w1.ownsRow base e size v n xs :=
  own_move ho (fun k hk => h.block k (own_lt ho k hk) (hn k hk))
end Fr

/-- An octets.Writer at block g: its bytes; row: the block that they lie in. -/
def WS (W : World) (g : Nat) (row : Option Nat) (xs : List Int) : Prop :=
  ∃ v, W.heap[g]? = some (.cells #[v] 39 (0, 0)) ∧ v.ownBlock = row ∧ W.ownsRow 0 5 1 v xs.length (nums .u8 xs)

/-- The bytes of a number in groups of seven bits. -/
def numForm (n : Nat) : List Int := if n < 128 then [(n : Int)] else ((n % 128 + 128 : Nat) : Int) :: numForm (n / 128)
termination_by n
decreasing_by omega

/-- What a writer's method leaves. -/
def WPost (w : World) (g : Nat) (row : Option Nat) (xs : List Int) (w' : World) : Prop :=
  ∃ row', WS w' g row' xs ∧ (row' = row ∨ ∃ b, row' = some b ∧ w.heap.size ≤ b) ∧ Fr w w' (fun k => k = g ∨ row = some k)

/-- The same, with the value that the writer holds: what a walk keeps in its context. -/
structure WIn (w W : World) (g : Nat) (row : Option Nat) (xs : List Int) (v : Value) : Prop where
  hb : W.heap[g]? = some (.cells #[v] 39 (0, 0))
  ho : W.ownsRow 0 5 1 v xs.length (nums .u8 xs)
  hrow : v.ownBlock = row ∨ ∃ b, v.ownBlock = some b ∧ w.heap.size ≤ b
  hfr : Fr w W (fun k => k = g ∨ row = some k)
namespace WIn
variable {w W W1 : World} {g : Nat} {row : Option Nat} {xs ys : List Int} {v v1 : Value}
theorem cell (h : WIn w W g row xs v) : W.cell? ⟨g, 0, none⟩ = some v := (blk_cell h.hb 0).trans rfl
theorem frozen (h : WIn w W g row xs v) : W.frozen? ⟨g, 0, none⟩ = false := blk_frozen h.hb 0
theorem drew (h : WIn w W g row xs v) : WIn w W.drew g row xs v := ⟨h.hb, h.ho, h.hrow, h.hfr.drew⟩
theorem drewN (h : WIn w W g row xs v) (n : Nat) : WIn w (W.drewN n) g row xs v := ⟨h.hb, h.ho, h.hrow, h.hfr.drewN n⟩
theorem alloc (h : WIn w W g row xs v) (o : Obj) : WIn w (W.alloc o) g row xs v := ⟨blk_alloc h.hb o, h.ho.alloc o, h.hrow, h.hfr.alloc o⟩
theorem post (h : WIn w W g row xs v) : WPost w g row xs W := ⟨_, ⟨v, h.hb, rfl, h.ho⟩, h.hrow, h.hfr⟩
theorem start (h : WS w g row xs) : ∃ v, WIn w w g row xs v := by
  obtain ⟨v, hb, hr, ho⟩ := h
  exact ⟨v, hb, ho, .inl hr, Fr.refl _ _⟩
theorem of_post (h : WPost w g row xs W) : ∃ v, WIn w W g row xs v := by
  obtain ⟨row', ⟨v, hb, hr, ho⟩, hrow, hfr⟩ := h
  exact ⟨v, hb, ho, by rw [hr]; exact hrow, hfr⟩
/-- One append to a writer's bytes, and the store of what it left. -/
theorem step (h : WIn w W g row ys v) (hown : W1.ownsRow 0 5 1 v1 xs.length (nums .u8 xs)) (hg : W.grownBy W1 v.ownBlock) (hat : v1.ownBlock = v.ownBlock ∨ ∃ b, v1.ownBlock = some b ∧ W.heap.size ≤ b) :
    WIn w (W1.setCell ⟨g, 0, none⟩ v1) g row xs v1 := by
  have hne := own_ne h.ho h.hb (by decide)
  have hb1 := blk_grown h.hb hg hne
  have hne1 := own_ne hown hb1 (by decide)
  refine ⟨by simpa using blk_set hb1 0 v1, own_setCell hown hne1 v1, ?_, ?_⟩
  · rcases hat with hat | ⟨b, hat, hl⟩
    · rw [hat]; exact h.hrow
    · exact .inr ⟨b, hat, Nat.le_trans h.hfr.size hl⟩
  · refine (h.hfr.grown hg ?_).setCell _ _ (fun _ => .inl rfl)
    intro k hk he
    rcases h.hrow with hrow | ⟨b, hrow, hl⟩
    · right; rw [← hrow]; exact he
    · rw [hrow] at he; injection he with he; omega
theorem cells (h : WIn w W g row ys v) (hg : W.grownBy W1 v.ownBlock) : W1.cell? ⟨g, 0, none⟩ = some v ∧ W1.frozen? ⟨g, 0, none⟩ = false := by
  have hb1 := blk_grown h.hb hg (own_ne h.ho h.hb (by decide))
  exact ⟨(blk_cell hb1 0).trans rfl, blk_frozen hb1 0⟩
section
variable {ops : Array Oper} {rest : List Oper} {o : Oper} {a : Act} {Q : Exit → Act → World → Prop}
/-- 'w.b = append(w.b, y)': the append. -/
theorem append (h : WIn w W g row ys v) (hgd : o.guard = none) (s x : Operand) (y : Int)
    (ho : o.op = .call { callee := .builtin .append, args := #[s, x], argTypes := #[30, 30] }) (hs : a.eval s = v) (hx : a.eval x = .slice (some ⟨W.heap.size, 0, none⟩) 1 1)
    (hl : ys.length + 1 ≤ 140737488355328)
    (k : ∀ A n c w1, WIn w (w1.setCell ⟨g, 0, none⟩ (.slice A n c)) g row (ys ++ [y]) (.slice A n c) → Aside0 (w1.cell? ⟨g, 0, none⟩ = some v) → w1.frozen? ⟨g, 0, none⟩ = false → wpList Try.prog ops Q rest (a.put o.dst (.slice A n c)) w1) :
    wpList Try.prog ops Q (o :: rest) a (W.alloc (.cells #[.int .u8 y] 5)) := by
  refine print_append_num (w0 := W) 0 hgd s x 30 5 .u8 1 ho Try.underlying30 info5 (by decide) v ys y hs hx h.ho (Below.refl 0 W) (Nat.zero_le _) (by omega) ?_
  intro v1 w1 hown _ hgrow hat
  obtain ⟨A, c, rfl⟩ := own_slice hown
  obtain ⟨hc1, hf1⟩ := h.cells hgrow
  exact k A _ c w1 (h.step hown hgrow hat) ⟨hc1⟩ hf1
/-- 'w.b = append(w.b, b...)': the append. -/
theorem append_row {zs : List Int} {A : Option Addr} {m c : Nat} (h : WIn w W g row ys v) (hgd : o.guard = none) (s x : Operand)
    (ho : o.op = .call { callee := .builtin .append, args := #[s, x], argTypes := #[30, 30] }) (hs : a.eval s = v) (hx : a.eval x = .slice A m c) (hz : ReadsInt W .u8 A m zs)
    (hl : ys.length + m ≤ 140737488355328)
    (k : ∀ A n c w1, WIn w (w1.setCell ⟨g, 0, none⟩ (.slice A n c)) g row (ys ++ zs) (.slice A n c) → Aside0 (w1.cell? ⟨g, 0, none⟩ = some v) → w1.frozen? ⟨g, 0, none⟩ = false → wpList Try.prog ops Q rest (a.put o.dst (.slice A n c)) w1) :
    wpList Try.prog ops Q (o :: rest) a W := by
  refine print_append_row (w0 := W) 0 hgd s x 30 5 .u8 1 ho Try.underlying30 info5 (by decide) v ys zs A m c hs hx h.ho hz (Below.refl 0 W) (Nat.zero_le _) (by omega) ?_
  intro v1 w1 hown _ hgrow hat
  obtain ⟨A, c, rfl⟩ := own_slice hown
  obtain ⟨hc1, hf1⟩ := h.cells hgrow
  exact k A _ c w1 (h.step hown hgrow hat) ⟨hc1⟩ hf1
/-- The first, as a step of a region that draws its order. -/
theorem append_step {K : Act → World → Prop} (h : WIn w W g row ys v) (hw : Region.wanted o (yielded ops a.tmps) = true) (s x : Operand) (y : Int)
    (ho : o.op = .call { callee := .builtin .append, args := #[s, x], argTypes := #[30, 30] }) (hs : a.eval s = v) (hx : a.eval x = .slice (some ⟨W.heap.size, 0, none⟩) 1 1)
    (hl : ys.length + 1 ≤ 140737488355328)
    (k : ∀ A n c w1, WIn w (w1.setCell ⟨g, 0, none⟩ (.slice A n c)) g row (ys ++ [y]) (.slice A n c) → Aside0 (w1.cell? ⟨g, 0, none⟩ = some v) → w1.frozen? ⟨g, 0, none⟩ = false → K (a.put o.dst (.slice A n c)) w1) :
    if Region.wanted o (yielded ops a.tmps) = true then Oper.wp Try.prog o a (W.alloc (.cells #[.int .u8 y] 5)) K Q else K (a.put o.dst undef) (W.alloc (.cells #[.int .u8 y] 5)) := by
  refine step_append_cells (w0 := W) 0 hw s x 30 5 (.int .u8 0) 1 1 ho Try.underlying30 info5 rfl (by decide) (by decide) v ys.length (nums .u8 ys) [.int .u8 y] hs hx rfl (by intro u hu; rw [List.mem_singleton.1 hu]; rfl) h.ho (Below.refl 0 W) (Nat.zero_le _) (by omega) ?_
  intro v1 w1 hown _ hgrow hat
  have hown : w1.ownsRow 0 5 1 v1 (ys ++ [y]).length (nums .u8 (ys ++ [y])) := by simpa [nums] using hown
  obtain ⟨A, c, rfl⟩ := own_slice hown
  obtain ⟨hc1, hf1⟩ := h.cells hgrow
  exact k A _ c w1 (h.step hown hgrow hat) ⟨hc1⟩ hf1
end
end WIn

theorem numForm_small {n : Int} (h0 : 0 ≤ n) (h : n < 128) : numForm n.toNat = [n] := by
  rw [numForm, if_pos (by omega)]
  congr 1
  omega
theorem numForm_big {n : Int} (h : 128 ≤ n) : numForm n.toNat = (n % 128 + 128) :: numForm (n / 128).toNat := by
  rw [numForm, if_neg (by omega)]
  congr 1
  · omega
  · congr 1
    omega
theorem or128 (m : Int) (h : 0 ≤ m) : bits BinOp.or IntKind.u8 (m % 256) 128 = m % 128 + 128 := by
  have key : ∀ x : Fin 256, bits BinOp.or IntKind.u8 (x.val : Int) 128 = (x.val : Int) % 128 + 128 := by decide +kernel
  have := key ⟨(m % 256).toNat, by omega⟩
  simp only [Int.toNat_of_nonneg (show 0 ≤ m % 256 by omega)] at this
  rw [this]
  omega

/-- The bytes of a number, the greatest first. -/
def uintForm (n : Nat) : Nat → List Int
  | 0 => []
  | k + 1 => ((n / 256 ^ k % 256 : Nat) : Int) :: uintForm n k
theorem uintForm_length (n k : Nat) : (uintForm n k).length = k := by
  induction k with
  | zero => rfl
  | succ k ih => simp [uintForm, ih]
theorem numForm_pos (n : Nat) : 1 ≤ (numForm n).length := by rw [numForm]; split <;> simp
theorem numForm_le (k : Nat) : ∀ n : Nat, n < 128 ^ (k + 1) → (numForm n).length ≤ k + 1 := by
  induction k with
  | zero =>
    intro n h
    rw [numForm, if_pos (by simpa using h)]
    simp
  | succ k ih =>
    intro n h
    rw [numForm]
    split
    · simp
    · have h2 : n / 128 < 128 ^ (k + 1) := by
        rw [Nat.div_lt_iff_lt_mul (by decide)]
        rw [Nat.pow_succ] at h
        exact h
      have := ih _ h2
      simp only [List.length_cons]
      omega
theorem numForm_ten (n : Int) (h : n < 18446744073709551616) : (numForm n.toNat).length ≤ 10 := by
  refine numForm_le 9 _ ?_
  have : (128 : Nat) ^ (9 + 1) = 1180591620717411303424 := by decide
  omega
end Go.Proofs.Ytalpemoodollpaa.P
