/- A writer of one's own, call by call. -/
import Derived.Test.YtalpemoodollpaaHForms
namespace Go.Proofs.Ytalpemoodollpaa.P
open Go.RowKit Go.Proofs.YtalpemoodollpaaW.PrintWords Go.Proofs.YtalpemoodollpaaW.PrintLast Go.Proofs.YtalpemoodollpaaW.PrintMore
set_option linter.unusedVariables false
set_option linter.unusedSimpArgs false

theorem lit_C (W : World) (xs : List Int) (hl : xs.length ≤ 9223372036854775807) : Kd.C (Kd.int .u8) (W.alloc (.cells (nums .u8 xs).toArray 5)) (some ⟨W.heap.size, 0, none⟩) xs.length xs := by
  have h := own_lit W W.heap.size 5 .u8 xs (Nat.le_refl _) hl
  obtain ⟨A, c, e, h2⟩ := own_reads h
  injection e with e1 e2 e3
  subst e1
  exact Kd.C_of_reads (d := (0 : Int)) (h1 := fun _ => rfl) h2
/-- Blocks of other types stay. -/
def KeepT (W W1 : World) (g : Nat) : Prop := ∀ (b : Nat) (cs : Array Value) (t : Nat), W.heap[b]? = some (.cells cs t (0, 0)) → t ≠ 5 → b ≠ g → W1.heap[b]? = some (.cells cs t (0, 0))
structure WK (w0 W : World) (g : Nat) (xs : List Int) : Prop where
  ex : ∃ row, WS W g row xs ∧ ∀ k, row = some k → w0.heap.size ≤ k
  bel : Below w0.heap.size w0 W
  hg : w0.heap.size ≤ g
namespace WK
variable {w0 W W1 : World} {g : Nat} {xs ys : List Int}
theorem new (hB : Below w0.heap.size w0 W) : WK w0 (W.alloc (.cells #[.slice none 0 0] 39)) W.heap.size [] :=
  ⟨⟨none, WS.new W, fun k hk => by cases hk⟩, below_alloc hB _, hB.size⟩
theorem below (h : WK w0 W g xs) (hb : Below W.heap.size W W1) : WK w0 W1 g xs := by
  obtain ⟨⟨row, hs, hr⟩, hB, hg⟩ := h
  exact ⟨⟨row, hs.below hb, hr⟩, below_then hB hB.size hb, hg⟩
theorem alloc (h : WK w0 W g xs) (o : Obj) : WK w0 (W.alloc o) g xs := h.below (below_alloc (Below.refl _ _) _)
theorem drew (h : WK w0 W g xs) : WK w0 W.drew g xs := ⟨h.ex, h.bel.drew, h.hg⟩
/-- What a call leaves. -/
theorem of_post {row : Option Nat} (hs : WS W g row xs) (hr : ∀ k, row = some k → w0.heap.size ≤ k) (hB : Below w0.heap.size w0 W) (hg : w0.heap.size ≤ g) (hp : WPost W g row ys W1) : WK w0 W1 g ys ∧ KeepT W W1 g := by
  obtain ⟨row1, h1, h2, h3⟩ := hp.below hB hg hr
  refine ⟨⟨⟨row1, h1, h3⟩, h2, hg⟩, fun b cs t hb ht hne => ?_⟩
  obtain ⟨_, _, _, hf⟩ := hp
  refine hf.blk hb (fun hS => hS.elim hne (fun hrow => ?_))
  obtain ⟨v, hb2, hr2, ho⟩ := hs
  exact own_ne ho hb (Ne.symm ht) (by rw [hr2, hrow])
theorem num (h : WK w0 W g xs) (n : Int) (h0 : 0 ≤ n) (h1 : n < 18446744073709551616) (hl : xs.length ≤ 1000000) :
    Calls Try.prog 36 #[.pointer (some ⟨g, 0, none⟩), .int .u64 n] W fun e w' => e = .returned (.pointer (some ⟨g, 0, none⟩)) ∧ WK w0 w' g (xs ++ numForm n.toNat) ∧ KeepT W w' g := by
  obtain ⟨⟨row, hs, hr⟩, hB, hg⟩ := h
  have := numForm_ten n h1
  exact (octets_Writer_Num.calls g row xs n W h0 hs (by omega)).mono fun e w' ⟨he, hp⟩ => ⟨he, of_post hs hr hB hg hp⟩
theorem int (h : WK w0 W g xs) (n : Int) (h0 : -9223372036854775808 ≤ n) (h1 : n ≤ 9223372036854775807) (hl : xs.length ≤ 1000000) :
    Calls Try.prog 38 #[.pointer (some ⟨g, 0, none⟩), .int .i64 n] W fun e w' => e = .returned (.pointer (some ⟨g, 0, none⟩)) ∧ WK w0 w' g (xs ++ intForm n) ∧ KeepT W w' g := by
  obtain ⟨⟨row, hs, hr⟩, hB, hg⟩ := h
  exact (octets_Writer_Int.calls g row xs n W h0 h1 hs (by omega)).mono fun e w' ⟨he, hp⟩ => ⟨he, of_post hs hr hB hg hp⟩
theorem uint (h : WK w0 W g xs) (n k : Int) (h0 : 0 ≤ n) (h1 : 1 ≤ k) (h2 : k ≤ 8) (hl : xs.length ≤ 1000000) :
    Calls Try.prog 99 #[.pointer (some ⟨g, 0, none⟩), .int .u64 n, .int .i64 k] W fun e w' => e = .returned (.pointer (some ⟨g, 0, none⟩)) ∧ WK w0 w' g (xs ++ uintForm n.toNat k.toNat) ∧ KeepT W w' g := by
  obtain ⟨⟨row, hs, hr⟩, hB, hg⟩ := h
  exact (octets_Writer_Uint.calls g row xs n k W h0 hs h1 h2 (by omega)).mono fun e w' ⟨he, hp⟩ => ⟨he, of_post hs hr hB hg hp⟩
theorem raw (h : WK w0 W g xs) (zs : List Int) (A : Option Addr) (c : Nat) (hz : Kd.C (Kd.int .u8) W A zs.length zs) (hl : xs.length ≤ 1000000) (hl2 : zs.length ≤ 1000000) :
    Calls Try.prog 94 #[.pointer (some ⟨g, 0, none⟩), .slice A zs.length c] W fun e w' => e = .returned (.pointer (some ⟨g, 0, none⟩)) ∧ WK w0 w' g (xs ++ zs) ∧ KeepT W w' g := by
  obtain ⟨⟨row, hs, hr⟩, hB, hg⟩ := h
  exact (octets_Writer_Raw.calls g row xs zs A c W hs hz (by omega)).mono fun e w' ⟨he, hp⟩ => ⟨he, of_post hs hr hB hg hp⟩
theorem bytes (h : WK w0 W g xs) (hl : xs.length ≤ 100000000) :
    Calls Try.prog 37 #[.pointer (some ⟨g, 0, none⟩)] W fun e w' => ∃ v0_ : Value, e = .returned v0_ ∧ Kd.R (Kd.int .u8) 5 w' w0.heap.size (fun _ => True) v0_ xs ∧ Below w0.heap.size w0 w' ∧ Below W.heap.size W w' := by
  obtain ⟨⟨row, hs, hr⟩, hB, hg⟩ := h
  exact (octets_Writer_Bytes.calls g row xs W hs (by omega)).mono fun e w' ⟨v, he, hR, hb⟩ => ⟨v, he, Kd.R_lower hR hB.size, below_then hB hB.size hb, hb⟩
theorem numA (h : WK w0 W g xs) (o : Obj) (n : Int) (h0 : 0 ≤ n) (h1 : n < 18446744073709551616) (hl : xs.length ≤ 1000000) :
    Calls Try.prog 36 #[.pointer (some ⟨g, 0, none⟩), .int .u64 n] (W.alloc o).drew fun e w' => e = .returned (.pointer (some ⟨g, 0, none⟩)) ∧ WK w0 w' g (xs ++ numForm n.toNat) ∧ KeepT (W.alloc o) w' g ∧ w'.heap[W.heap.size]? = some o := by
  obtain ⟨⟨row, hs, hr⟩, hB, hg⟩ := h
  have := numForm_ten n h1
  have hs2 : WS (W.alloc o).drew g row xs := hs.alloc o
  refine (octets_Writer_Num.calls g row xs n _ h0 hs2 (by omega)).mono fun e w' ⟨he, hp⟩ => ?_
  have h2 := of_post (w0 := w0) hs2 hr (below_alloc hB o).drew hg hp
  refine ⟨he, h2.1, h2.2, ?_⟩
  obtain ⟨_, _, _, hf⟩ := hp
  refine hf.blk (blk_new W o) (fun hS => ?_)
  rcases hS with hS | hS
  · have := hs.lt; omega
  · obtain ⟨v, hb2, hr2, ho⟩ := hs
    have := own_lt ho W.heap.size (by rw [hr2, hS])
    omega
end WK
theorem lit_at {W : World} {b : Nat} {xs : List Int} (h : W.heap[b]? = some (.cells (nums .u8 xs).toArray 5 (0, 0))) (hl : xs.length ≤ 9223372036854775807) : Kd.C (Kd.int .u8) W (some ⟨b, 0, none⟩) xs.length xs := by
  refine Kd.C_of_reads (d := (0 : Int)) (h1 := fun _ => rfl) ⟨rfl, hl, fun _ => ⟨_, rfl, fun j hj => ?_⟩⟩
  rw [add_plain, blk_cell h j]
  simp [nums, List.getD_eq_getElem?_getD, hj]
end Go.Proofs.Ytalpemoodollpaa.P
