/- Contracts and plain laws: HWK, Hmessage, HmessageAll, P34, P35, PE0, P59, P92, P24, HMsgEnc0, HMsgStrP, HReadInt. -/
import Derived.Deep.RegionHeld3
import Derived.Shelf.RegionOpen
import Derived.RegionIn
import Derived.Test.YtalpemoodollpaaX1
import Derived.Test.YtalpemoodollpaaX35
/- A writer of one's own, call by call. -/
namespace Go.Proofs.Ytalpemoodollpaa.P
open Go.RowKit Go.Proofs.YtalpemoodollpaaW.PrintWords Go.Proofs.YtalpemoodollpaaW.PrintLast Go.Proofs.YtalpemoodollpaaW.PrintMore
set_option linter.unusedVariables false
set_option linter.unusedSimpArgs false

theorem lit_C (W : World) (xs : List Int) (hl : xs.length ≤ 9223372036854775807) : Kd.C (Kd.int .u8) (W.alloc (.cells (nums .u8 xs).toArray 5)) (some ⟨W.heap.size, 0, none⟩) xs.length xs := by
  have h := own_lit W W.heap.size 5 .u8 xs (Nat.le_refl _) hl
  obtain ⟨A, c, e, h2⟩ := own_reads h
  injection e with e1 e2 e3
  subst e1
  exact Kd.C_of_reads (d := (0 : Int)) (h1 := fun _ => rfl) h2
/-- Blocks of other types stay. -/
def KeepT (W W1 : World) (g : Nat) : Prop := ∀ (b : Nat) (cs : Array Value) (t : Nat), W.heap[b]? = some (.cells cs t (0, 0)) → t ≠ 5 → b ≠ g → W1.heap[b]? = some (.cells cs t (0, 0))
structure WK (w0 W : World) (g : Nat) (xs : List Int) : Prop where
  ex : ∃ row, WS W g row xs ∧ ∀ k, row = some k → w0.heap.size ≤ k
  bel : Below w0.heap.size w0 W
  hg : w0.heap.size ≤ g
namespace WK
variable {w0 W W1 : World} {g : Nat} {xs ys : List Int}
theorem new (hB : Below w0.heap.size w0 W) : WK w0 (W.alloc (.cells #[.slice none 0 0] 39)) W.heap.size [] :=
  ⟨⟨none, WS.new W, fun k hk => by cases hk⟩, below_alloc hB _, hB.size⟩
theorem below (h : WK w0 W g xs) (hb : Below W.heap.size W W1) : WK w0 W1 g xs := by
  obtain ⟨⟨row, hs, hr⟩, hB, hg⟩ := h
  exact ⟨⟨row, hs.below hb, hr⟩, below_then hB hB.size hb, hg⟩
theorem alloc (h : WK w0 W g xs) (o : Obj) : WK w0 (W.alloc o) g xs := h.below (below_alloc (Below.refl _ _) _)
theorem drew (h : WK w0 W g xs) : WK w0 W.drew g xs := ⟨h.ex, h.bel.drew, h.hg⟩
/-- What a call leaves. -/
theorem of_post {row : Option Nat} (hs : WS W g row xs) (hr : ∀ k, row = some k → w0.heap.size ≤ k) (hB : Below w0.heap.size w0 W) (hg : w0.heap.size ≤ g) (hp : WPost W g row ys W1) : WK w0 W1 g ys ∧ KeepT W W1 g := by
  obtain ⟨row1, h1, h2, h3⟩ := hp.below hB hg hr
  refine ⟨⟨⟨row1, h1, h3⟩, h2, hg⟩, fun b cs t hb ht hne => ?_⟩
  obtain ⟨_, _, _, hf⟩ := hp
  refine hf.blk hb (fun hS => hS.elim hne (fun hrow => ?_))
  obtain ⟨v, hb2, hr2, ho⟩ := hs
  exact own_ne ho hb (Ne.symm ht) (by rw [hr2, hrow])
theorem num (h : WK w0 W g xs) (n : Int) (h0 : 0 ≤ n) (h1 : n < 18446744073709551616) (hl : xs.length ≤ 1000000) :
    Calls Try.prog 36 #[.pointer (some ⟨g, 0, none⟩), .int .u64 n] W fun e w' => e = .returned (.pointer (some ⟨g, 0, none⟩)) ∧ WK w0 w' g (xs ++ numForm n.toNat) ∧ KeepT W w' g := by
  obtain ⟨⟨row, hs, hr⟩, hB, hg⟩ := h
  have := numForm_ten n h1
  exact (octets_Writer_Num.calls g row xs n W h0 hs (by omega)).mono fun e w' ⟨he, hp⟩ => ⟨he, of_post hs hr hB hg hp⟩
theorem int (h : WK w0 W g xs) (n : Int) (h0 : -9223372036854775808 ≤ n) (h1 : n ≤ 9223372036854775807) (hl : xs.length ≤ 1000000) :
    Calls Try.prog 38 #[.pointer (some ⟨g, 0, none⟩), .int .i64 n] W fun e w' => e = .returned (.pointer (some ⟨g, 0, none⟩)) ∧ WK w0 w' g (xs ++ intForm n) ∧ KeepT W w' g := by
  obtain ⟨⟨row, hs, hr⟩, hB, hg⟩ := h
  exact (octets_Writer_Int.calls g row xs n W h0 h1 hs (by omega)).mono fun e w' ⟨he, hp⟩ => ⟨he, of_post hs hr hB hg hp⟩
theorem uint (h : WK w0 W g xs) (n k : Int) (h0 : 0 ≤ n) (h1 : 1 ≤ k) (h2 : k ≤ 8) (hl : xs.length ≤ 1000000) :
    Calls Try.prog 99 #[.pointer (some ⟨g, 0, none⟩), .int .u64 n, .int .i64 k] W fun e w' => e = .returned (.pointer (some ⟨g, 0, none⟩)) ∧ WK w0 w' g (xs ++ uintForm n.toNat k.toNat) ∧ KeepT W w' g := by
  obtain ⟨⟨row, hs, hr⟩, hB, hg⟩ := h
  exact (octets_Writer_Uint.calls g row xs n k W h0 hs h1 h2 (by omega)).mono fun e w' ⟨he, hp⟩ => ⟨he, of_post hs hr hB hg hp⟩
theorem raw (h : WK w0 W g xs) (zs : List Int) (A : Option Addr) (c : Nat) (hz : Kd.C (Kd.int .u8) W A zs.length zs) (hl : xs.length ≤ 1000000) (hl2 : zs.length ≤ 1000000) :
    Calls Try.prog 94 #[.pointer (some ⟨g, 0, none⟩), .slice A zs.length c] W fun e w' => e = .returned (.pointer (some ⟨g, 0, none⟩)) ∧ WK w0 w' g (xs ++ zs) ∧ KeepT W w' g := by
  obtain ⟨⟨row, hs, hr⟩, hB, hg⟩ := h
  exact (octets_Writer_Raw.calls g row xs zs A c W hs hz (by omega)).mono fun e w' ⟨he, hp⟩ => ⟨he, of_post hs hr hB hg hp⟩
theorem bytes (h : WK w0 W g xs) (hl : xs.length ≤ 100000000) :
    Calls Try.prog 37 #[.pointer (some ⟨g, 0, none⟩)] W fun e w' => ∃ v0_ : Value, e = .returned v0_ ∧ Kd.R (Kd.int .u8) 5 w' w0.heap.size (fun _ => True) v0_ xs ∧ Below w0.heap.size w0 w' ∧ Below W.heap.size W w' := by
  obtain ⟨⟨row, hs, hr⟩, hB, hg⟩ := h
  exact (octets_Writer_Bytes.calls g row xs W hs (by omega)).mono fun e w' ⟨v, he, hR, hb⟩ => ⟨v, he, Kd.R_lower hR hB.size, below_then hB hB.size hb, hb⟩
theorem numA (h : WK w0 W g xs) (o : Obj) (n : Int) (h0 : 0 ≤ n) (h1 : n < 18446744073709551616) (hl : xs.length ≤ 1000000) :
    Calls Try.prog 36 #[.pointer (some ⟨g, 0, none⟩), .int .u64 n] (W.alloc o).drew fun e w' => e = .returned (.pointer (some ⟨g, 0, none⟩)) ∧ WK w0 w' g (xs ++ numForm n.toNat) ∧ KeepT (W.alloc o) w' g ∧ w'.heap[W.heap.size]? = some o := by
  obtain ⟨⟨row, hs, hr⟩, hB, hg⟩ := h
  have := numForm_ten n h1
  have hs2 : WS (W.alloc o).drew g row xs := hs.alloc o
  refine (octets_Writer_Num.calls g row xs n _ h0 hs2 (by omega)).mono fun e w' ⟨he, hp⟩ => ?_
  have h2 := of_post (w0 := w0) hs2 hr (below_alloc hB o).drew hg hp
  refine ⟨he, h2.1, h2.2, ?_⟩
  obtain ⟨_, _, _, hf⟩ := hp
  refine hf.blk (blk_new W o) (fun hS => ?_)
  rcases hS with hS | hS
  · have := hs.lt; omega
  · obtain ⟨v, hb2, hr2, ho⟩ := hs
    have := own_lt ho W.heap.size (by rw [hr2, hS])
    omega
end WK
theorem lit_at {W : World} {b : Nat} {xs : List Int} (h : W.heap[b]? = some (.cells (nums .u8 xs).toArray 5 (0, 0))) (hl : xs.length ≤ 9223372036854775807) : Kd.C (Kd.int .u8) W (some ⟨b, 0, none⟩) xs.length xs := by
  refine Kd.C_of_reads (d := (0 : Int)) (h1 := fun _ => rfl) ⟨rfl, hl, fun _ => ⟨_, rfl, fun j hj => ?_⟩⟩
  rw [add_plain, blk_cell h j]
  simp [nums, List.getD_eq_getElem?_getD, hj]
end Go.Proofs.Ytalpemoodollpaa.P
/- The contract of message.Encode. -/
namespace Go.Proofs.Ytalpemoodollpaa.P
open Go.RowKit Go.Proofs.YtalpemoodollpaaW.PrintWords Go.Proofs.YtalpemoodollpaaW.PrintLast Go.Proofs.YtalpemoodollpaaW.PrintMore
set_option linter.unusedVariables false
set_option linter.unusedSimpArgs false

def message_Encode.f (a0_0 a0_1 a0_2 a0_3 a0_4 a0_5 a0_6 a0_7 a0_8 : Int) : Option (List Int × Int) :=
  if i64B a0_6 = true ∧ i64B a0_7 = true then some (if msgRight ⟨a0_0, a0_1, a0_2, a0_3, a0_4, a0_5, a0_6, a0_7, a0_8⟩ = true then (msgForm ⟨a0_0, a0_1, a0_2, a0_3, a0_4, a0_5, a0_6, a0_7, a0_8⟩, 0) else ([], 1)) else none
set_option maxRecDepth 100000 in
set_option maxHeartbeats 2000000 in
theorem message_Encode.calls (a0_0 a0_1 a0_2 a0_3 a0_4 a0_5 a0_6 a0_7 a0_8 : Int) (r1 : List Int) (r2 : Int) (w : World) (h : message_Encode.f a0_0 a0_1 a0_2 a0_3 a0_4 a0_5 a0_6 a0_7 a0_8 = some (r1, r2)) :
    Calls Try.prog 29 #[.agg #[.int .i64 a0_0, .int .i64 a0_1, .int .i64 a0_2, .int .i64 a0_3, .int .i64 a0_4, .int .i64 a0_5, .int .i64 a0_6, .int .i64 a0_7, .int .i64 a0_8]] w fun e w' => ∃ v0_ : Value, e = .returned (.tuple #[v0_, .int .i64 r2]) ∧ Kd.R (Kd.int .u8) 5 w' w.heap.size (fun _ => True) v0_ r1 ∧ Below w.heap.size w w' := by
  unfold message_Encode.f at h
  by_cases hp : i64B a0_6 = true ∧ i64B a0_7 = true
  · rw [if_pos hp] at h
    have H := Option.some.inj h
    clear h
    have HRC : ∀ W : World, Calls Try.prog 32 #[.agg #[.int .i64 a0_0, .int .i64 a0_1, .int .i64 a0_2, .int .i64 a0_3, .int .i64 a0_4, .int .i64 a0_5, .int .i64 a0_6, .int .i64 a0_7, .int .i64 a0_8]] W fun e w' => e = .returned (.bool (msgRight ⟨a0_0, a0_1, a0_2, a0_3, a0_4, a0_5, a0_6, a0_7, a0_8⟩)) ∧ Below W.heap.size W w' := fun W => msgRight_calls ⟨a0_0, a0_1, a0_2, a0_3, a0_4, a0_5, a0_6, a0_7, a0_8⟩ W
    have hu29 := Try.underlying29
    have bx : Box9 (w.alloc (.cells #[.int .i64 a0_0, .int .i64 a0_1, .int .i64 a0_2, .int .i64 a0_3, .int .i64 a0_4, .int .i64 a0_5, .int .i64 a0_6, .int .i64 a0_7, .int .i64 a0_8] 29)) 29 w.heap.size a0_0 a0_1 a0_2 a0_3 a0_4 a0_5 a0_6 a0_7 a0_8 := blk_new w _
    have hb0 := below_alloc (Below.refl w.heap.size w) (.cells #[.int .i64 a0_0, .int .i64 a0_1, .int .i64 a0_2, .int .i64 a0_3, .int .i64 a0_4, .int .i64 a0_5, .int .i64 a0_6, .int .i64 a0_7, .int .i64 a0_8] 29)
    have BX := Aside0.mk bx
    have HB0 := Aside0.mk hb0
    have HP := Aside0.mk hp
    clear hb0 hp
    obtain ⟨c0, c1, c2, c3, c4, c5, c6, c7, c8⟩ := bx.cells
    clear bx
    by_cases hr : msgRight ⟨a0_0, a0_1, a0_2, a0_3, a0_4, a0_5, a0_6, a0_7, a0_8⟩ = true
    · rw [if_pos hr] at H
      obtain ⟨rfl, rfl⟩ := Prod.mk.inj H
      clear H
      have HR := Aside0.mk hr
      go_enter Try.func29, Try.ntmps29
      go_wp2_with fail
      refine (HRC _).mono ?_
      rintro e w1 ⟨rfl, hb⟩
      rw [HR.out]
      have BX1 := Aside0.mk (show Box9 w1 29 w.heap.size a0_0 a0_1 a0_2 a0_3 a0_4 a0_5 a0_6 a0_7 a0_8 from (hb.block _ (by simp)).trans BX.out)
      have HB1 := Aside0.mk (below_then HB0.out HB0.out.size hb)
      have HZ := Aside0.mk (show w.heap.size < w1.heap.size from by have := hb.size; simp at this; omega)
      clear hb c0 c1 c2 c3 c4 c5 c6 c7 c8 BX HB0
      have HK := Aside0.mk (WK.new HB1.out)
      have BX2 := Aside0.mk (show Box9 (w1.alloc (.cells #[.slice none 0 0] 39)) 29 w.heap.size a0_0 a0_1 a0_2 a0_3 a0_4 a0_5 a0_6 a0_7 a0_8 from blk_alloc BX1.out _)
      obtain ⟨c0, c1, c2, c3, c4, c5, c6, c7, c8⟩ := BX2.out.cells
      go_wp2_with fail
      have HG := Aside0.mk (show w.heap.size < w1.heap.size from HZ.out)
      clear HZ BX1 HB1
      generalize hg : w1.heap.size = g at *
      generalize (w1.alloc (.cells #[.slice none 0 0] 39)) = W2 at *
      clear hg
      have H94 : Aside0 (Calls Try.prog 94 #[.pointer (some ⟨g, 0, none⟩), .slice (some ⟨W2.heap.size, 0, none⟩) 3 3] (W2.alloc (.cells #[.int .u8 (IntKind.u8.wrap a0_0), .int .u8 (IntKind.u8.wrap a0_1), .int .u8 (IntKind.u8.wrap a0_8)] 5)).drew fun e w' => e = .returned (.pointer (some ⟨g, 0, none⟩)) ∧ WK w w' g ([] ++ [IntKind.u8.wrap a0_0, IntKind.u8.wrap a0_1, IntKind.u8.wrap a0_8]) ∧ KeepT (W2.alloc (.cells #[.int .u8 (IntKind.u8.wrap a0_0), .int .u8 (IntKind.u8.wrap a0_1), .int .u8 (IntKind.u8.wrap a0_8)] 5)).drew w' g) :=
        ⟨(HK.out.alloc (.cells (nums .u8 [IntKind.u8.wrap a0_0, IntKind.u8.wrap a0_1, IntKind.u8.wrap a0_8]).toArray 5)).drew.raw [IntKind.u8.wrap a0_0, IntKind.u8.wrap a0_1, IntKind.u8.wrap a0_8] _ 3 (lit_C W2 [IntKind.u8.wrap a0_0, IntKind.u8.wrap a0_1, IntKind.u8.wrap a0_8] (by simp)) (by simp) (by simp)⟩
      have BX3 := Aside0.mk (show Box9 (W2.alloc (.cells #[.int .u8 (IntKind.u8.wrap a0_0), .int .u8 (IntKind.u8.wrap a0_1), .int .u8 (IntKind.u8.wrap a0_8)] 5)).drew 29 w.heap.size a0_0 a0_1 a0_2 a0_3 a0_4 a0_5 a0_6 a0_7 a0_8 from blk_alloc BX2.out _)
      have R2 : 0 ≤ IntKind.u64.wrap a0_2 ∧ IntKind.u64.wrap a0_2 < 18446744073709551616 := wrap_u64_range _
      have R3 : 0 ≤ IntKind.u64.wrap a0_3 ∧ IntKind.u64.wrap a0_3 < 18446744073709551616 := wrap_u64_range _
      have HR2 := Aside0.mk R2
      have HR3 := Aside0.mk R3
      clear R2 R3
      have hr3 := HR.out
      simp only [msgRight, Bool.and_eq_true, within_iff] at hr3
      have hp3 := HP.out
      simp only [i64B, within_iff] at hp3
      have HL4 : Aside0 (-9223372036854775808 ≤ a0_4 ∧ a0_4 ≤ 9223372036854775807) := ⟨by omega⟩
      have HL5 : Aside0 (-9223372036854775808 ≤ a0_5 ∧ a0_5 ≤ 9223372036854775807) := ⟨by omega⟩
      have HL6 : Aside0 (-9223372036854775808 ≤ a0_6 ∧ a0_6 ≤ 9223372036854775807) := ⟨hp3.1⟩
      have HL7 : Aside0 (-9223372036854775808 ≤ a0_7 ∧ a0_7 ≤ 9223372036854775807) := ⟨hp3.2⟩
      clear hr3 hp3
      go_region_held3 (fun w' => w'.cell? ⟨w.heap.size, 0, none⟩ = some (.int .i64 a0_0) ∧ w'.cell? ⟨w.heap.size, 1, none⟩ = some (.int .i64 a0_1) ∧ w'.cell? ⟨w.heap.size, 8, none⟩ = some (.int .i64 a0_8) ∧ w'.cell? ⟨w.heap.size, 2, none⟩ = some (.int .i64 a0_2) ∧ w'.cell? ⟨w.heap.size, 3, none⟩ = some (.int .i64 a0_3)) (first | (refine ⟨?_, ?_, ?_, ?_, ?_⟩ <;> assumption) | go_keep)
        (first | (go_at_call 94; refine H94.out.mono ?_; rintro e w3 ⟨rfl, hk3, kt⟩; have HK3 := Aside0.mk hk3; have BX4 := Aside0.mk (show Box9 w3 29 w.heap.size a0_0 a0_1 a0_2 a0_3 a0_4 a0_5 a0_6 a0_7 a0_8 from kt _ _ _ BX3.out (by decide) (by have := HG.out; omega)); obtain ⟨d0, d1, d2, d3, d4, d5, d6, d7, d8⟩ := BX4.out.cells; clear hk3 kt) | (go_at_call 36; (with_reducible refine (HK4.out.num (IntKind.u64.wrap a0_3) HR3.out.1 HR3.out.2 (by have := numForm_ten _ HR2.out.2; simp; omega)).mono ?_); rintro e w5 ⟨rfl, hk5, kt⟩; have HK5 := Aside0.mk hk5; have BX6 := Aside0.mk (show Box9 w5 29 w.heap.size a0_0 a0_1 a0_2 a0_3 a0_4 a0_5 a0_6 a0_7 a0_8 from kt _ _ _ BX5.out (by decide) (by have := HG.out; omega)); obtain ⟨f0, f1, f2, f3, f4, f5, f6, f7, f8⟩ := BX6.out.cells; clear hk5 kt) | (go_at_call 36; (with_reducible refine (HK3.out.num (IntKind.u64.wrap a0_2) HR2.out.1 HR2.out.2 (by simp)).mono ?_); rintro e w4 ⟨rfl, hk4, kt⟩; have HK4 := Aside0.mk hk4; have BX5 := Aside0.mk (show Box9 w4 29 w.heap.size a0_0 a0_1 a0_2 a0_3 a0_4 a0_5 a0_6 a0_7 a0_8 from kt _ _ _ BX4.out (by decide) (by have := HG.out; omega)); obtain ⟨e0, e1, e2, e3, e4, e5, e6, e7, e8⟩ := BX5.out.cells; clear hk4 kt))
      have hmf : ∀ (fn : Fn) (first cap : Array Value) (w : World), (Instr.makeFunc fn first cap).run Try.prog w = .ok (.func fn first cap) w := fun _ _ _ _ => rfl
      have i0 : ∀ w, (Instr.index 124 (.agg #[.int .i64 a0_4, .int .i64 a0_5, .int .i64 a0_6, .int .i64 a0_7]) (.int .i64 0)).run Try.prog w = .ok (.int .i64 a0_4) w := fun _ => by kernel_rfl
      have i1 : ∀ w, (Instr.index 124 (.agg #[.int .i64 a0_4, .int .i64 a0_5, .int .i64 a0_6, .int .i64 a0_7]) (.int .i64 1)).run Try.prog w = .ok (.int .i64 a0_5) w := fun _ => by kernel_rfl
      have i2 : ∀ w, (Instr.index 124 (.agg #[.int .i64 a0_4, .int .i64 a0_5, .int .i64 a0_6, .int .i64 a0_7]) (.int .i64 2)).run Try.prog w = .ok (.int .i64 a0_6) w := fun _ => by kernel_rfl
      have i3 : ∀ w, (Instr.index 124 (.agg #[.int .i64 a0_4, .int .i64 a0_5, .int .i64 a0_6, .int .i64 a0_7]) (.int .i64 3)).run Try.prog w = .ok (.int .i64 a0_7) w := fun _ => by kernel_rfl
      go_wp2
      refine wp_loop_rounds 5 ?_
      rw [rounds_succ]
      go_wp2_with fail
      refine (HK5.out.int a0_4 HL4.out.1 HL4.out.2 (by have := numForm_ten _ HR2.out.2; have := numForm_ten _ HR3.out.2; simp [intForm_length]; omega)).mono ?_
      rintro e w6 ⟨rfl, hk, kt⟩
      have HK6 := Aside0.mk hk
      clear hk kt
      go_wp2
      rw [rounds_succ]
      go_wp2_with fail
      refine (HK6.out.int a0_5 HL5.out.1 HL5.out.2 (by have := numForm_ten _ HR2.out.2; have := numForm_ten _ HR3.out.2; simp [intForm_length]; omega)).mono ?_
      rintro e w7 ⟨rfl, hk, kt⟩
      have HK7 := Aside0.mk hk
      clear hk kt
      go_wp2
      rw [rounds_succ]
      go_wp2_with fail
      refine (HK7.out.int a0_6 HL6.out.1 HL6.out.2 (by have := numForm_ten _ HR2.out.2; have := numForm_ten _ HR3.out.2; simp [intForm_length]; omega)).mono ?_
      rintro e w8 ⟨rfl, hk, kt⟩
      have HK8 := Aside0.mk hk
      clear hk kt
      go_wp2
      rw [rounds_succ]
      go_wp2_with fail
      refine (HK8.out.int a0_7 HL7.out.1 HL7.out.2 (by have := numForm_ten _ HR2.out.2; have := numForm_ten _ HR3.out.2; simp [intForm_length]; omega)).mono ?_
      rintro e w9 ⟨rfl, hk, kt⟩
      have HK9 := Aside0.mk hk
      clear hk kt
      go_wp2
      rw [rounds_succ]
      go_wp2_with fail
      refine (HK9.out.bytes (by have := numForm_ten _ HR2.out.2; have := numForm_ten _ HR3.out.2; simp [intForm_length]; omega)).mono ?_
      rintro e w10 ⟨v, rfl, hR, hB, _⟩
      have HRR := Aside0.mk hR
      have HBB := Aside0.mk hB
      clear hR hB
      go_wp2
      go_ret2
      refine ⟨_, rfl, ?_, HBB.out⟩
      have hr2 := HR.out
      simp only [msgRight, Bool.and_eq_true, within_iff] at hr2
      have e0 : IntKind.u8.wrap a0_0 = a0_0 := by rw [IntKind.wrap_u8]; omega
      have e1 : IntKind.u8.wrap a0_1 = a0_1 := by rw [IntKind.wrap_u8]; omega
      have e8 : IntKind.u8.wrap a0_8 = a0_8 := by rw [IntKind.wrap_u8]; omega
      have e2 : IntKind.u64.wrap a0_2 = a0_2 := by rw [wrap_u64]; omega
      have e3 : IntKind.u64.wrap a0_3 = a0_3 := by rw [wrap_u64]; omega
      have h := HRR.out
      rw [e0, e1, e8, e2, e3] at h
      exact h
    · rw [if_neg hr] at H
      obtain ⟨rfl, rfl⟩ := Prod.mk.inj H
      clear H
      have hr2 : msgRight ⟨a0_0, a0_1, a0_2, a0_3, a0_4, a0_5, a0_6, a0_7, a0_8⟩ = false := by simpa using hr
      have HR := Aside0.mk hr2
      clear hr hr2
      go_enter Try.func29, Try.ntmps29
      go_wp2_with fail
      refine (HRC _).mono ?_
      rintro e w1 ⟨rfl, hb⟩
      rw [HR.out]
      have HB1 := Aside0.mk (below_then HB0.out HB0.out.size hb)
      clear hb c0 c1 c2 c3 c4 c5 c6 c7 c8 BX HB0
      go_wp2
      go_ret2
      exact ⟨_, rfl, Kd.R_nil _ _ _ _ _, HB1.out⟩
  · rw [if_neg hp] at h
    cases h
end Go.Proofs.Ytalpemoodollpaa.P
/- message.All. -/
namespace Go.Proofs.Ytalpemoodollpaa.P
open Go.RowKit Go.Shelf Go.Proofs.YtalpemoodollpaaW.PrintWords Go.Proofs.YtalpemoodollpaaW.PrintLast Go.Proofs.YtalpemoodollpaaW.PrintMore
set_option linter.unusedVariables false
set_option linter.unusedSimpArgs false
attribute [local go_sem] Oper.semAt_some
def msgC (m : S29) : List Value := [.int .i64 m.f0, .int .i64 m.f1, .int .i64 m.f2, .int .i64 m.f3, .int .i64 m.f4, .int .i64 m.f5, .int .i64 m.f6, .int .i64 m.f7, .int .i64 m.f8]
theorem info29m : (Try.prog.info? 29).map (fun i => (i.zero, i.size, i.bytes)) = some (some (.agg #[.int .i64 0, .int .i64 0, .int .i64 0, .int .i64 0, .int .i64 0, .int .i64 0, .int .i64 0, .int .i64 0, .int .i64 0]), 9, 72) := by kernel_rfl
theorem k29_ne (t : Nat) (ht : 29 ≠ t) : ∀ q, q ∈ 29 :: k29.E → q ≠ t := by
  intro q hq
  simp [k29, Kd.iso, Kd.pair, Kd.int, Kd.scalar] at hq
  omega
theorem R29_set {w : World} {base : Nat} {ok : Nat → Prop} {v : Value} {xs : List S29} {g t : Nat} {cs : Array Value} (h : k29.R 29 w base ok v xs) (hb : w.heap[g]? = some (.cells cs t (0, 0))) (ht : 29 ≠ t) (i : Nat) (u : Value) : k29.R 29 (w.setCell ⟨g, i, none⟩ u) base ok v xs := by
  refine Kd.R_mono (Kd.R_far (p := ⟨g, i, none⟩) (Kd.R_bound h) ?_ u) (fun _ hk => hk.1)
  rintro k ⟨_, _, _, q, hq, cells, hc⟩ e
  have e : k = g := e
  subst e
  rw [hb] at hc
  injection hc with hc
  injection hc with _ hc
  exact k29_ne t ht q hq hc.symm
theorem R29_own {w W : World} {base : Nat} {ok : Nat → Prop} {v : Value} {xs : List S29} {B0 : Nat} {row : Option Nat} (h : k29.R 29 w base ok v xs) (hg : w.grownBy W row) (hr : ∀ r, row = some r → B0 ≤ r ∧ ∃ o : Obj, w.heap[r]? = some o ∧ o.isCells = false) : k29.R 29 W base ok v xs := by
  refine Kd.R_mono (Kd.R_grown (Kd.R_bound h) hg ?_) (fun _ hk => hk.1)
  rintro k ⟨_, _, _, q, hq, cells, hc⟩ e
  obtain ⟨_, o, ho, hc2⟩ := hr k e.symm
  rw [hc] at ho
  cases ho
  exact absurd hc2 (by simp [Obj.isCells])
/-- Between two rounds. -/
structure MI (w : World) (bv : Value) (ps : List (List Int)) (A : Option Addr) (m : Nat) (W : World) : Prop where
  bl : Below w.heap.size w W
  h2 : W.heap[w.heap.size]? = some (.cells #[.slice A ps.length m] 22 (0, 0))
  hR : Kd.R k29 29 W w.heap.size (fun _ => True) (.slice A ps.length m) (msgsOf ps)
  h3 : W.heap[w.heap.size + 1]? = some (.cells #[.int .i64 0] 31 (0, 0))
  h4 : W.heap[w.heap.size + 1 + 1]? = some (.cells #[.int .i64 (total ps : Int)] 3 (0, 0))
  hB : W.heap[w.heap.size + 1 + 1 + 1]? = some (.cells #[bv] 30 (0, 0))
  ok : firstBad ps = 0
theorem MI.own {w w7 : World} {bv : Value} {ps : List (List Int)} {A : Option Addr} {m : Nat} {X Y : World} {row : Option Nat} (h7 : w.heap.size ≤ w7.heap.size) (h : MI w bv ps A m X) (hg : X.grownBy Y row)
    (hr : ∀ r, row = some r → w7.heap.size ≤ r ∧ ∃ o : Obj, X.heap[r]? = some o ∧ o.isCells = false) : MI w bv ps A m Y :=
  ⟨h.bl.grown hg h.bl.size (fun k e => by have := (hr k e).1; omega), blk_own h.h2 hg hr, R29_own h.hR hg hr, blk_own h.h3 hg hr, blk_own h.h4 hg hr, blk_own h.hB hg hr, h.ok⟩
theorem MI.below {w : World} {bv : Value} {ps : List (List Int)} {A : Option Addr} {m : Nat} {X Y : World} (h : MI w bv ps A m X) (hb : Below X.heap.size X Y) : MI w bv ps A m Y :=
  ⟨below_then h.bl h.bl.size hb, blk_below h.h2 hb, Kd.R_below h.hR hb, blk_below h.h3 hb, blk_below h.h4 hb, blk_below h.hB hb, h.ok⟩
/-- The body's own word to the iterator. -/
theorem MI.kp {w : World} {bv : Value} {ps ps' : List (List Int)} {A A' : Option Addr} {m m' : Nat} {X Y : World} (h : MI w bv ps A m X) (h' : MI w bv ps' A' m' Y) (hs : X.heap.size ≤ Y.heap.size) : KpE w.heap.size (w.heap.size + 1 + 1 + 1) X Y :=
  ⟨⟨h'.bl.os.trans h.bl.os.symm, h'.bl.tape.trans h.bl.tape.symm, h'.bl.output.trans h.bl.output.symm, hs, fun k hk => (h'.bl.block k hk).trans (h.bl.block k hk).symm⟩, h'.hB.trans h.hB.symm⟩
theorem MI.step {w : World} {bv : Value} {ps : List (List Int)} {A A1 : Option Addr} {m m1 : Nat} {X Y : World} {p : List Int} {L : Nat} {E : Int} (h : MI w bv ps A m X) (hg : X.grownBy Y (Value.slice A ps.length m).ownBlock)
    (hR : Kd.R k29 29 Y w.heap.size (fun _ => True) (.slice A1 L m1) (msgsOf (ps ++ [p]))) (hL : L = ps.length + 1) (hp : (msgDec p).2 = 0) (hE : E = (total ps : Int) + 2 + p.length) :
    MI w bv (ps ++ [p]) A1 m1 ((Y.setCell ⟨w.heap.size, 0, none⟩ (.slice A1 L m1)).setCell ⟨w.heap.size + 1 + 1, 0, none⟩ (.int .i64 E)) := by
  subst hL
  have n2 := Kd.R_ne h.hR h.h2 (by decide)
  have n3 := Kd.R_ne h.hR h.h3 (by decide)
  have n4 := Kd.R_ne h.hR h.h4 (by decide)
  have nB := Kd.R_ne h.hR h.hB (by decide)
  have y2 := blk_grown h.h2 hg n2
  have y3 := blk_grown h.h3 hg n3
  have y4 := blk_grown h.h4 hg n4
  have yB := blk_grown h.hB hg nB
  obtain ⟨inn, ho⟩ := Kd.R_own h.hR
  have hbl := h.bl.grown hg h.bl.size (own_base ho)
  have z4 := blk_far y4 (p := ⟨w.heap.size, 0, none⟩) (by simp; omega) (.slice A1 (ps.length + 1) m1)
  refine ⟨(hbl.setCell (Nat.le_refl _) _).setCell (by simp; omega) _, ?_, ?_, ?_, ?_, ?_, firstBad_snoc h.ok hp⟩
  · rw [List.length_append, List.length_singleton]
    exact blk_far (blk_put y2 0 _ rfl) (by simp; omega) _
  · rw [List.length_append, List.length_singleton]
    exact R29_set (R29_set hR y2 (by decide) 0 _) z4 (by decide) 0 _
  · exact blk_far (blk_far y3 (by simp) _) (by simp) _
  · refine blk_put z4 0 _ ?_
    rw [hE, total_snoc, show ((total ps + (2 + p.length) : Nat) : Int) = (total ps : Int) + 2 + (p.length : Int) by omega]
    rfl
  · exact blk_far (blk_far yB (by simp; omega) _) (by simp) _
/-- A payload is no message. -/
structure MX (w : World) (f : Int) (W : World) : Prop where
  bl : Below w.heap.size w W
  h2 : W.heap[w.heap.size]? = some (.cells #[.slice none 0 0] 22 (0, 0))
  h3 : W.heap[w.heap.size + 1]? = some (.cells #[.int .i64 f] 31 (0, 0))
theorem MX.own {w w7 : World} {f : Int} {X Y : World} {row : Option Nat} (h7 : w.heap.size ≤ w7.heap.size) (h : MX w f X) (hg : X.grownBy Y row)
    (hr : ∀ r, row = some r → w7.heap.size ≤ r ∧ ∃ o : Obj, X.heap[r]? = some o ∧ o.isCells = false) : MX w f Y :=
  ⟨h.bl.grown hg h.bl.size (fun k e => by have := (hr k e).1; omega), blk_own h.h2 hg hr, blk_own h.h3 hg hr⟩
theorem MI.stop {w : World} {bv : Value} {ps : List (List Int)} {A : Option Addr} {m : Nat} {X : World} (h : MI w bv ps A m X) (f : Int) : MX w f ((X.setCell ⟨w.heap.size, 0, none⟩ (.slice none 0 0)).setCell ⟨w.heap.size + 1, 0, none⟩ (.int .i64 f)) :=
  ⟨(h.bl.setCell (Nat.le_refl _) _).setCell (by simp) _, blk_far (blk_put h.h2 0 _ rfl) (by simp) _, blk_put (blk_far h.h3 (by simp) _) 0 _ rfl⟩
theorem MX.below {w : World} {f : Int} {X : World} (h : MX w f X) (o : Obj) : MX w f (X.alloc o) :=
  ⟨h.bl.alloc h.bl.size _, blk_alloc h.h2 _, blk_alloc h.h3 _⟩
def MAllPost (w : World) (F : List S29 × Int) (e : Ending) (w' : World) : Prop :=
  ∃ v0_ : Value, e = .returned (.tuple #[v0_, .int .i64 F.2]) ∧ Kd.R k29 29 w' w.heap.size (fun _ => True) v0_ F.1 ∧ Below w.heap.size w w'
set_option maxRecDepth 100000 in
set_option maxHeartbeats 4000000 in
theorem mAll_calls (A0 : Option Addr) (c0 : Nat) (bs : List Int) (w : World) (hr0 : Kd.C (Kd.int .u8) w A0 bs.length bs) (hc0 : bs.length ≤ c0) (hl : bs.length ≤ 1000000) (hb : Byt bs) :
    Calls Try.prog 57 #[.slice A0 bs.length c0] w (MAllPost w (msgAll bs)) := by
  have hu29 := Try.underlying29
  have hRB : RB w A0 bs c0 := ⟨hr0, hc0, hb, by omega⟩
  have HRB := Aside0.mk hRB
  obtain ⟨l1, l2, l3⟩ := frames_last bs.length bs (Nat.le_refl _) hb
  have hle := frames_end bs hb
  generalize hG : msgAll bs = G
  have HG := Aside0.mk hG
  obtain ⟨N, hN⟩ : ∃ N, bs.length = N := ⟨_, rfl⟩
  have HN := Aside0.mk hN
  have HST0 := Aside0.mk (fun w7 hm hBs hbl => each_stops 3 (w.heap.size + 1 + 1 + 1) w.heap.size A0 c0 bs w w7 (by omega) hm hBs hRB rfl hbl hl)
  have HBY := Aside0.mk (frames_byt bs.length bs (Nat.le_refl _) hb)
  have HF := Aside0.mk (show msgAll bs = if firstBad (frames bs).1 ≠ 0 then ([], firstBad (frames bs).1) else if (frames bs).2.2 ≠ 0 then ([], (frames bs).2.2) else (msgsOf (frames bs).1, 0) from rfl)
  rw [hN] at hl l2 l3 hle HST0 ⊢
  generalize frames bs = FR at *
  obtain ⟨FF, en, ef⟩ := FR
  dsimp only at l1 l2 l3 hle HST0 HF HBY
  subst l1
  have L2 := Aside0.mk l2
  have L3 := Aside0.mk l3
  have hl2 : (N : Int) ≤ 1000000 := by omega
  clear hr0 hc0 hb hG hN hRB l2 l3
  refine (callsIn_wide (n := 4)).1 ?_
  refine callsIn_of_wp_marks Try.func57 rfl trivial ?_ rfl
  simp only [Try.ntmps57, List.size_toArray, List.length_cons, List.length_nil, Nat.reduceAdd, Nat.reduceSub, Array.replicate_succ, Array.replicate_zero, List.push_toArray, List.append_toArray, List.nil_append, List.cons_append]
  gi_wp2_with fail
  refine ⟨trivial, ?_⟩
  refine (callsIn_wide.2 (each_calls _ _ _ _)).mono ?_
  rintro e w7 ⟨rfl, e7⟩
  gi_wp2_with fail
  have E7 : MI w (.slice A0 N c0) [] none 0 ((((w.alloc (Obj.cells #[Value.slice none 0 0] 22)).alloc (Obj.cells #[Value.int IntKind.i64 0] 31)).alloc (Obj.cells #[Value.int IntKind.i64 0] 3)).alloc (Obj.cells #[Value.slice A0 N c0] 30)) := by
    have b1 := blk_new w (Obj.cells #[Value.slice none 0 0] 22)
    have b2 := blk_new (w.alloc (Obj.cells #[Value.slice none 0 0] 22)) (Obj.cells #[Value.int IntKind.i64 0] 31)
    have b3 := blk_new ((w.alloc (Obj.cells #[Value.slice none 0 0] 22)).alloc (Obj.cells #[Value.int IntKind.i64 0] 31)) (Obj.cells #[Value.int IntKind.i64 0] 3)
    have b4 := blk_new (((w.alloc (Obj.cells #[Value.slice none 0 0] 22)).alloc (Obj.cells #[Value.int IntKind.i64 0] 31)).alloc (Obj.cells #[Value.int IntKind.i64 0] 3)) (Obj.cells #[Value.slice A0 N c0] 30)
    simp only [World.size_alloc] at b2 b3 b4
    exact ⟨((((Below.refl _ w).alloc (Nat.le_refl _) _).alloc (by simp) _).alloc (by simp; omega) _).alloc (by simp; omega) _, blk_alloc (blk_alloc (blk_alloc b1 _) _) _, Kd.R_nil _ _ _ _ _, blk_alloc (blk_alloc b2 _) _, blk_alloc b3 _, b4, rfl⟩
  have hz7 : w.heap.size + 4 = ((((w.alloc (Obj.cells #[Value.slice none 0 0] 22)).alloc (Obj.cells #[Value.int IntKind.i64 0] 31)).alloc (Obj.cells #[Value.int IntKind.i64 0] 3)).alloc (Obj.cells #[Value.slice A0 N c0] 30)).heap.size := by simp
  clear e7
  generalize ((((w.alloc (Obj.cells #[Value.slice none 0 0] 22)).alloc (Obj.cells #[Value.int IntKind.i64 0] 31)).alloc (Obj.cells #[Value.int IntKind.i64 0] 3)).alloc (Obj.cells #[Value.slice A0 N c0] 30)) = w7 at *
  have hST := HST0.out w7 E7.bl.size E7.hB E7.bl
  have hw7 := E7.bl.size
  refine wpIn_rangeFunc_pr rfl (by omega) (gf := 111) (lb := #[.pointer (some ⟨w.heap.size + 1 + 1 + 1, 0, none⟩)]) rfl trivial (enters_of Try.func111 (by kernel_rfl) rfl)
    hST PrE.put (fun h k => h.t k) (fun W l o o' hl h h1 h2 => KpE.b (w := w7) (by omega) (by omega) W l o o' hl h h1 h2) (Below.refl _ _) (fun _ => rfl)
    (fun pre W => ∃ A m, MI w (.slice A0 N c0) (pre.map El.p) A m W)
    (fun c pre W => c = .ret ∧ ∃ ps p, pre.map El.p = ps ++ [p] ∧ firstBad ps = 0 ∧ (msgDec p).2 ≠ 0 ∧ MX w (msgDec p).2 W)
    (fun s A B row hs hg hr => by obtain ⟨X, m, h⟩ := hs; exact ⟨X, m, h.own (w7 := w7) hw7 hg hr⟩)
    (fun c s A B row hs hg hr => by obtain ⟨h0, ps, p, h1, h2, h3, h4⟩ := hs; exact ⟨h0, ps, p, h1, h2, h3, h4.own (w7 := w7) hw7 hg hr⟩)
    ⟨none, 0, E7⟩
    (fun x => { tmps := #[Value.slice A0 N c0, undef, Value.pointer (some { block := w.heap.size, off := 0 }),
          Value.pointer (some { block := w.heap.size + 1, off := 0 }),
          Value.pointer (some { block := w.heap.size + 1 + 1, off := 0 }), .int .i64 x.at_, x.v, undef, undef,
          Value.slice A0 N c0,
          Value.func (Fn.func 111) #[] #[Value.pointer (some { block := w.heap.size + 1 + 1 + 1, off := 0 })], .int .i64 x.at_, x.v, undef, undef, undef, undef, undef, undef, undef, undef, undef, undef, undef, undef, undef, undef, undef, undef, undef, undef, undef, undef, undef, undef, undef, undef, undef, undef, undef, undef, undef, undef, undef], defers := [] }) ?assign ?body ?done ?stop
  case assign =>
    intro l x W K hK
    simp only [encE]
    gi_wp2
    exact hK
  case body =>
    rintro l pre ⟨at_, v, p⟩ W ⟨A, m, hE⟩ ⟨A', c, hv, hq, hC⟩ hsp hlen
    have hcn := came_last hsp
    dsimp only at hv hq hC hcn ⊢
    subst hv
    obtain ⟨hpf, rfl⟩ := hcn
    have htl := total_prefix hpf
    rw [total_snoc] at htl
    have htg := total_ge (pre.map El.p)
    have hpl : p.length ≤ 1000000 := by omega
    have hbp : Byt p := HBY.out p (hpf.subset (by simp))
    have D8 := Aside0.mk (msgDec_calls A' c p W hC (by omega) hbp)
    have HE := Aside0.mk hE
    rw [List.length_map] at htg
    have hq2 : pre.length ≤ 1000000 := by omega
    generalize hps : pre.map El.p = ps at *
    have HPS := Aside0.mk hps
    generalize hT : total ps = T at *
    have HT := Aside0.mk hT
    have htl2 : (T : Int) + 2 + (p.length : Int) ≤ (N : Int) := by omega
    clear hE hq hC hsp htg hpl hbp hps hT
    generalize hM : msgDec p = M at *
    have HM := Aside0.mk hM
    clear hM
    obtain ⟨mm, mf⟩ := M
    dsimp only at D8
    gi_wp2_with fail
    refine ⟨trivial, ?_⟩
    refine (CallsIn.inRound l (callsIn_wide.2 D8.out)).mono ?_
    rintro e w8 ⟨rfl, hb8⟩
    have hE8 := HE.out.below hb8
    have HB8 := Aside0.mk hb8
    have HE8 := Aside0.mk hE8
    have d2_ : w8.cell? ⟨w.heap.size, 0, none⟩ = some (.slice A ps.length m) := (blk_cell hE8.h2 0).trans rfl
    have d3_ : w8.cell? ⟨w.heap.size + 1, 0, none⟩ = some (.int .i64 0) := (blk_cell hE8.h3 0).trans rfl
    have d4_ : w8.cell? ⟨w.heap.size + 1 + 1, 0, none⟩ = some (.int .i64 (T : Int)) := by have := (blk_cell hE8.h4 0).trans rfl; rw [HT.out] at this; exact this
    have f2_ := blk_frozen hE8.h2 0
    have f3_ := blk_frozen hE8.h3 0
    have f4_ := blk_frozen hE8.h4 0
    have hs2 := blk_lt hE8.h2
    have hs3 := blk_lt hE8.h3
    have hs4 := blk_lt hE8.h4
    have HEW := HE
    clear hb8 hE8 D8 HE
    by_cases hf : mf = 0
    · subst hf
      gi_wp2_with (gi_at_builtin; go_must (refine R_append_in k29 (w0 := w) w.heap.size rfl (.tmp 21) (.tmp 23) 22 29 _ 72 rfl Try.underlying22 info29m rfl (by decide) (by decide) (.slice A ps.length m) (msgsOf ps) mm (msgC mm) (fun _ => True) (fun _ => False) rfl (by rw [World.size_alloc]; rfl) (k29_mkM _ _ _ mm) (fun _ h => False.elim h) (fun _ _ => trivial) (Kd.R_alloc HE8.out.hR _) (below_alloc HE8.out.bl _) (by simp; omega) (by rw [msgsOf_length]; have := HPS.out; rw [← this, List.length_map]; omega) ?_; intro v1 w10 hR1 hB1 hg1 hat1; obtain ⟨A1, m1, e1⟩ := Kd.R_slice hR1; subst e1; have HR1 := Aside0.mk hR1; have HG1 := Aside0.mk hg1; have s10 : w8.heap.size ≤ w10.heap.size := Nat.le_trans (Nat.le_trans (Nat.le_succ _) (Nat.le_of_eq (World.size_alloc _ _).symm)) hg1.size; have y2 := blk_grown (blk_alloc HE8.out.h2 _) hg1 (Kd.R_ne HE8.out.hR HE8.out.h2 (by decide)); have y4 := blk_grown (blk_alloc HE8.out.h4 _) hg1 (Kd.R_ne HE8.out.hR HE8.out.h4 (by decide)); have n2_ : w10.cell? ⟨w.heap.size, 0, none⟩ = some (.slice A ps.length m) := (blk_cell y2 0).trans rfl; have m2_ := blk_frozen y2 0; have n4_ : w10.cell? ⟨w.heap.size + 1 + 1, 0, none⟩ = some (.int .i64 (T : Int)) := (by have := (blk_cell y4 0).trans rfl; rw [HT.out] at this; exact this); have m4_ := blk_frozen y4 0; clear y2 y4; clear hR1 hB1 hg1 hat1))
      have hM1 := HM.out
      have hXa := HE8.out.below (below_alloc (Below.refl _ w8) (.cells (msgC mm).toArray 29))
      have hS := hXa.step (p := p) (L := (msgsOf ps).length + 1) (E := (T : Int) + 2 + p.length) (A1 := A1) (m1 := m1) HG1.out (by rw [msgsOf_snoc, hM1]; have := HR1.out; rwa [List.length_append, List.length_singleton] at this) (by rw [msgsOf_length]) (by rw [hM1]) (by rw [HT.out])
      have hKO : KeepsOthers W ((w10.setCell ⟨w.heap.size, 0, none⟩ (.slice A1 ((msgsOf ps).length + 1) m1)).setCell ⟨w.heap.size + 1 + 1, 0, none⟩ (.int .i64 ((T : Int) + 2 + p.length))) :=
        ((((KeepsOthers.of_grownBy (row := none) (grown_of_below HB8.out none) (fun j o e => by cases e)).trans (KeepsOthers.alloc _ _)).trans (KeepsOthers.of_grownBy HG1.out (fun j o hj ho => by
          obtain ⟨cells, hc⟩ := Kd.R_typed hXa.hR j hj
          have := hc.symm.trans ho; injection this with this; subst this; rfl))).trans (KeepsOthers.setCell _ _ _)).trans (KeepsOthers.setCell _ _ _)
      exact ⟨hKO, HEW.out.kp hS hKO.size, ⟨A1, m1, by rw [List.map_append, HPS.out]; exact hS⟩⟩
    · have hff : (mf != 0) = true := by simpa using hf
      gi_wp2_with fail
      have hKO : KeepsOthers W ((w8.setCell ⟨w.heap.size, 0, none⟩ (.slice none 0 0)).setCell ⟨w.heap.size + 1, 0, none⟩ (.int .i64 mf)) :=
        ((KeepsOthers.of_grownBy (row := none) (grown_of_below HB8.out none) (fun j o e => by cases e)).trans (KeepsOthers.setCell _ _ _)).trans (KeepsOthers.setCell _ _ _)
      have hM1 := HM.out
      refine ⟨hKO.trans (KeepsOthers.alloc _ _), rfl, ps, p, by rw [List.map_append, HPS.out]; rfl, HE8.out.ok, by rw [hM1]; exact hf, ?_⟩
      rw [hM1]
      exact (HE8.out.stop mf).below _
  case done =>
    rintro D xs W hD hS ⟨A, m, hE⟩ hK
    have hxs := came_eq hS
    rw [hxs] at hE
    have d2_ : W.cell? ⟨w.heap.size, 0, none⟩ = some (.slice A FF.length m) := (blk_cell hE.h2 0).trans rfl
    have d3_ : W.cell? ⟨w.heap.size + 1, 0, none⟩ = some (.int .i64 0) := (blk_cell hE.h3 0).trans rfl
    have d4_ : W.cell? ⟨w.heap.size + 1 + 1, 0, none⟩ = some (.int .i64 (total FF : Int)) := (blk_cell hE.h4 0).trans rfl
    have f2_ := blk_frozen hE.h2 0
    have f3_ := blk_frozen hE.h3 0
    have f4_ := blk_frozen hE.h4 0
    have HE := Aside0.mk hE
    have HK := Aside0.mk hK
    have hT2 : (total FF : Int) ≤ (N : Int) := by omega
    clear hE hK hS hxs
    by_cases hTN : total FF = N
    · have hGe : G = (msgsOf FF, 0) := by
        rw [← HG.out, HF.out, if_neg (by rw [HE.out.ok]; simp), if_neg (by rw [L2.out hTN]; simp)]
      subst hGe
      generalize hTT : total FF = T at *
      subst hTN
      gi_wp2
      have y2 := blk_put HE.out.h2 0 (.slice A FF.length m) rfl
      have y3 := blk_put (blk_far HE.out.h3 (p := ⟨w.heap.size, 0, none⟩) (by simp) (.slice A FF.length m)) 0 (.int .i64 0) rfl
      have y2' := blk_far y2 (p := ⟨w.heap.size + 1, 0, none⟩) (by simp) (.int .i64 0)
      have c2_ := (blk_cell y2' 0).trans rfl
      have c3_ := (blk_cell y3 0).trans rfl
      have hK' := ((KeepsOthers.setCell W ⟨w.heap.size, 0, none⟩ (.slice A FF.length m)).trans (KeepsOthers.setCell _ ⟨w.heap.size + 1, 0, none⟩ (.int .i64 0))).same D _ HK.out rfl
      have hbl := (HE.out.bl.setCell (p := ⟨w.heap.size, 0, none⟩) (Nat.le_refl _) (.slice A FF.length m)).setCell (p := ⟨w.heap.size + 1, 0, none⟩) (by simp) (.int .i64 0)
      have hRf := R29_own (B0 := 0) (R29_set (R29_set HE.out.hR HE.out.h2 (by decide) 0 (.slice A FF.length m)) (blk_far HE.out.h3 (p := ⟨w.heap.size, 0, none⟩) (by simp) (.slice A FF.length m)) (by decide) 0 (.int .i64 0)) (grownBy_putObj' _ D (.deferred none)) (fun r e => by cases e; exact ⟨Nat.zero_le _, _, hK', rfl⟩)
      have hc2 := cell_kept c2_ (grownBy_putObj' _ D (.deferred none)) (fun r e => by cases e; exact ⟨_, hK', rfl⟩)
      have hc3 := cell_kept c3_ (grownBy_putObj' _ D (.deferred none)) (fun r e => by cases e; exact ⟨_, hK', rfl⟩)
      refine ⟨by simp, .inl ⟨_, _, rfl, run_takeDeferred hK', ?_⟩⟩
      refine ⟨.tuple #[.slice A FF.length m, .int .i64 0], ?_, ⟨.slice A FF.length m, rfl, hRf, hbl.trans (belowK_b (w := w) (Nat.le_refl _) _ D _ _ (by omega) hK' rfl rfl)⟩⟩
      simp [results, Try.f57, go_sem, hc2, hc3]
    · obtain ⟨hL3, hef⟩ := L3.out (by omega)
      have hGe : G = ([], ef) := by
        rw [← HG.out, HF.out, if_neg (by rw [HE.out.ok]; simp), if_pos hef]
      subst hGe
      obtain ⟨A', hcut, hrb', hall⟩ := HRB.out.cut (total FF) (by rw [HN.out]; omega)
      rw [HN.out] at hcut
      have TK := Aside0.mk (frame_Take.calls A' (c0 - total FF) (bs.drop (total FF)) (takeF (bs.drop (total FF))).1 (takeF (bs.drop (total FF))).2.1 (takeF (bs.drop (total FF))).2.2 W (Kd.C_below hrb'.hC HE.out.bl) hrb'.hc (show frame_Take.f (bs.drop (total FF)) = some (takeF (bs.drop (total FF))) by
        unfold frame_Take.f; rw [if_pos ⟨bytB_of hrb'.hb, hrb'.hl⟩]))
      clear hrb' hall
      rw [hL3] at TK
      clear hL3
      generalize (takeF (bs.drop (total FF))).1 = tp at *
      generalize (takeF (bs.drop (total FF))).2.1 = tn at *
      generalize (bs.drop (total FF)).length = DL at *
      gi_wp2_with fail
      refine ⟨trivial, ?_⟩
      refine (callsIn_wide.2 TK.out).mono ?_
      rintro e w4 ⟨v4, rfl, hR4, hb4⟩
      obtain ⟨X4, m4, rfl⟩ := Kd.R_slice hR4
      have hE4 := HE.out.below hb4
      have HE4 := Aside0.mk hE4
      have hK4 := (hb4.block D (Array.getElem?_eq_some_iff.1 HK.out).1).trans HK.out
      have HK4 := Aside0.mk hK4
      have d2_ : w4.cell? ⟨w.heap.size, 0, none⟩ = some (.slice A FF.length m) := (blk_cell hE4.h2 0).trans rfl
      have d3_ : w4.cell? ⟨w.heap.size + 1, 0, none⟩ = some (.int .i64 0) := (blk_cell hE4.h3 0).trans rfl
      have f2_ := blk_frozen hE4.h2 0
      have f3_ := blk_frozen hE4.h3 0
      clear hE4 hb4 TK HE HK hK4 hR4
      gi_wp2_with fail
      gi_region
      gi_wp2
      have y3 := blk_put HE4.out.h3 0 (.int .i64 ef) rfl
      have y2 := blk_put (blk_far HE4.out.h2 (p := ⟨w.heap.size + 1, 0, none⟩) (by simp) (.int .i64 ef)) 0 (.slice none 0 0) rfl
      have y3' := blk_put (blk_far y3 (p := ⟨w.heap.size, 0, none⟩) (by simp) (.slice none 0 0)) 0 (.int .i64 ef) rfl
      have y2' := blk_far y2 (p := ⟨w.heap.size + 1, 0, none⟩) (by simp) (.int .i64 ef)
      have c2_ := (blk_cell (blk_drew y2') 0).trans rfl
      have c3_ := (blk_cell (blk_drew y3') 0).trans rfl
      have hK' := ((((KeepsOthers.setCell w4 ⟨w.heap.size + 1, 0, none⟩ (.int .i64 ef)).trans (KeepsOthers.setCell _ ⟨w.heap.size, 0, none⟩ (.slice none 0 0))).trans (KeepsOthers.setCell _ ⟨w.heap.size + 1, 0, none⟩ (.int .i64 ef))).trans (KeepsOthers.drew _)).same D _ HK4.out rfl
      have hbl := below_drew1 (((HE4.out.bl.setCell (p := ⟨w.heap.size + 1, 0, none⟩) (by simp) (.int .i64 ef)).setCell (p := ⟨w.heap.size, 0, none⟩) (Nat.le_refl _) (.slice none 0 0)).setCell (p := ⟨w.heap.size + 1, 0, none⟩) (by simp) (.int .i64 ef))
      have hc2 := cell_kept c2_ (grownBy_putObj' _ D (.deferred none)) (fun r e => by cases e; exact ⟨_, hK', rfl⟩)
      have hc3 := cell_kept c3_ (grownBy_putObj' _ D (.deferred none)) (fun r e => by cases e; exact ⟨_, hK', rfl⟩)
      refine ⟨by simp, .inl ⟨_, _, rfl, run_takeDeferred hK', ?_⟩⟩
      refine ⟨.tuple #[.slice none 0 0, .int .i64 ef], ?_, ⟨.slice none 0 0, rfl, Kd.R_nil _ _ _ _ _, hbl.trans (belowK_b (w := w) (Nat.le_refl _) _ D _ _ (by omega) hK' rfl rfl)⟩⟩
      simp [results, Try.f57, go_sem, hc2, hc3]
  case stop =>
    rintro D c pre W hD hS ⟨rfl, ps, p, h1, h2, h3, h4⟩ hK
    obtain ⟨fs, hfs, hcs⟩ := hS
    have hxs := came_eq hcs
    rw [h1] at hxs
    have hfb := firstBad_stop h2 h3 (by rw [hxs]; exact hfs)
    have hGe : G = ([], (msgDec p).2) := by
      rw [← HG.out, HF.out, hfb, if_pos h3]
    subst hGe
    generalize (msgDec p).2 = mf at *
    have c2_ : W.cell? ⟨w.heap.size, 0, none⟩ = some (.slice none 0 0) := (blk_cell h4.h2 0).trans rfl
    have c3_ : W.cell? ⟨w.heap.size + 1, 0, none⟩ = some (.int .i64 mf) := (blk_cell h4.h3 0).trans rfl
    have hbl := h4.bl
    have hK' := hK
    gi_wp2
    have hc2 := cell_kept c2_ (grownBy_putObj' _ D (.deferred none)) (fun r e => by cases e; exact ⟨_, hK', rfl⟩)
    have hc3 := cell_kept c3_ (grownBy_putObj' _ D (.deferred none)) (fun r e => by cases e; exact ⟨_, hK', rfl⟩)
    refine ⟨by simp, .inl ⟨_, _, rfl, run_takeDeferred hK', ?_⟩⟩
    refine ⟨.tuple #[.slice none 0 0, .int .i64 mf], ?_, ⟨.slice none 0 0, rfl, Kd.R_nil _ _ _ _ _, hbl.trans (belowK_b (w := w) (Nat.le_refl _) _ D _ _ (by omega) hK' rfl rfl)⟩⟩
    simp [results, Try.f57, go_sem, hc2, hc3]
def message_All.f (l0 : List Int) : Option (List S29 × Int) := if bytB l0 = true ∧ l0.length ≤ 1000000 then some (msgAll l0) else none
theorem message_All.calls (A0 : Option Addr) (c0 : Nat) (l0 : List Int) (r1 : List S29) (r2 : Int) (w : World) (hr0 : Kd.C (Kd.int .u8) w A0 l0.length l0) (hc0 : l0.length ≤ c0) (h : message_All.f l0 = some (r1, r2)) :
    Calls Try.prog 57 #[.slice A0 l0.length c0] w fun e w' => ∃ v0_ : Value, e = .returned (.tuple #[v0_, .int .i64 r2]) ∧ Kd.R k29 29 w' w.heap.size (fun _ => True) v0_ r1 ∧ Below w.heap.size w w' := by
  unfold message_All.f at h
  by_cases hp : bytB l0 = true ∧ l0.length ≤ 1000000
  · rw [if_pos hp] at h
    have h := Option.some.inj h
    have := mAll_calls A0 c0 l0 w hr0 hc0 hp.2 (byt_of hp.1)
    rw [h] at this
    exact this
  · rw [if_neg hp] at h
    exact absurd h (by simp)
end Go.Proofs.Ytalpemoodollpaa.P
-- Printed by hookprint.py (the session's own program, over the kit's print.py): checked by Lean like any text.
namespace Go.Proofs.Ytalpemoodollpaa.P
open Go.RowKit Go.Proofs.YtalpemoodollpaaW.PrintWords Go.Proofs.YtalpemoodollpaaW.PrintLast Go.Proofs.YtalpemoodollpaaW.PrintMore
attribute [local go_sem] max2_int min2_int max_two min_two max_three min_three max_four min_four   -- for this text's walks alone
set_option linter.unusedVariables false
set_option linter.unusedSimpArgs false

/-! ### message_Is: function 34 -/
def message_Is.f (a0_0 : Int) (a0_1 : Int) (a0_2 : Int) (a0_3 : Int) (a0_4 : Int) (a0_5 : Int) (a0_6 : Int) (a0_7 : Int) (a0_8 : Int) (a1 : Int) (a2 : Int) : Option (Bool) := if a0_0 = a1 then (some (a0_1 == a2)) else (some false)
set_option maxHeartbeats 8000000 in
set_option maxRecDepth 100000 in
theorem message_Is.calls (a0_0 : Int) (a0_1 : Int) (a0_2 : Int) (a0_3 : Int) (a0_4 : Int) (a0_5 : Int) (a0_6 : Int) (a0_7 : Int) (a0_8 : Int) (a1 : Int) (a2 : Int) (r : Bool) (w : World) (h : message_Is.f a0_0 a0_1 a0_2 a0_3 a0_4 a0_5 a0_6 a0_7 a0_8 a1 a2 = some r) :
    Calls Try.prog 34 #[.agg #[.int .i64 a0_0, .int .i64 a0_1, .int .i64 a0_2, .int .i64 a0_3, .int .i64 a0_4, .int .i64 a0_5, .int .i64 a0_6, .int .i64 a0_7, .int .i64 a0_8], .int .i64 a1, .int .i64 a2] w fun e w' => e = .returned (.bool r) ∧ Below w.heap.size w w' := by
  have hu29 := Try.underlying29
  have HB := Aside0.mk (Below.refl w.heap.size w)
  have H : (if a0_0 = a1 then (some (a0_1 == a2)) else (some false)) = some r := h
  clear h
  by_cases c4 : a0_0 = a1
  · rw [if_pos c4] at H
    have c4b0 : (a0_0 == a1) = true := beq_iff_eq.mpr c4
    have c4b1 : (a0_0 != a1) = false := bne_eq_false_iff_eq.mpr c4
    clear c4
    obtain rfl := Option.some.inj H
    go_enter Try.func34, Try.ntmps34
    go_wp2_with (first | ((with_reducible refine gate_dst (N := 3) rfl ?_); refine box_event ?hg (N := 3) ?hd (cs := #[.int .i64 a0_0, .int .i64 a0_1, .int .i64 a0_2, .int .i64 a0_3, .int .i64 a0_4, .int .i64 a0_5, .int .i64 a0_6, .int .i64 a0_7, .int .i64 a0_8]) (t := 29) ?hr ?_; (case hd => rfl); (case hg => rfl); (case hr => first | (go_simp; done) | (go_simp; rfl)); intro gb208 hg w5 hbox hb; have n0_ := Aside0.mk (below_step (by repeat (first | (with_reducible first | exact HB.out | apply below_alloc | apply pw_below_drewN | apply below_drew1) | exact HB.out)) hb); have n1_ := Aside0.mk (hbox); have n2_ := Aside0.mk ((by rw [hg]; exact (below_size (by repeat (first | (with_reducible first | exact HB.out | apply below_alloc | apply pw_below_drewN | apply below_drew1) | exact HB.out))) : w.heap.size ≤ gb208)); have n3_ := Aside0.mk ((by rw [hg]; exact (below_size (by repeat (first | (with_reducible first | exact HB.out | apply below_alloc | apply pw_below_drewN | apply below_drew1) | exact HB.out))) : w.heap.size ≤ gb208)); clear HB; have HB := n0_; have BK208 := n1_; have GW208 := n2_; have GE208 := n3_; clear n0_ n1_ n2_ n3_; clear hb hbox hg; have hcz6_0 : w5.cell? ⟨gb208, 0, none⟩ = some (.int .i64 a0_0) := (blk_cell BK208.out 0).trans rfl; have hcz6_1 : w5.cell? ⟨gb208, 1, none⟩ = some (.int .i64 a0_1) := (blk_cell BK208.out 1).trans rfl; have hcz6_2 : w5.cell? ⟨gb208, 2, none⟩ = some (.int .i64 a0_2) := (blk_cell BK208.out 2).trans rfl; have hcz6_3 : w5.cell? ⟨gb208, 3, none⟩ = some (.int .i64 a0_3) := (blk_cell BK208.out 3).trans rfl; have hcz6_4 : w5.cell? ⟨gb208, 4, none⟩ = some (.int .i64 a0_4) := (blk_cell BK208.out 4).trans rfl; have hcz6_5 : w5.cell? ⟨gb208, 5, none⟩ = some (.int .i64 a0_5) := (blk_cell BK208.out 5).trans rfl; have hcz6_6 : w5.cell? ⟨gb208, 6, none⟩ = some (.int .i64 a0_6) := (blk_cell BK208.out 6).trans rfl; have hcz6_7 : w5.cell? ⟨gb208, 7, none⟩ = some (.int .i64 a0_7) := (blk_cell BK208.out 7).trans rfl; have hcz6_8 : w5.cell? ⟨gb208, 8, none⟩ = some (.int .i64 a0_8) := (blk_cell BK208.out 8).trans rfl; have hfz6_0 := blk_frozen BK208.out 0; have hfz6_1 := blk_frozen BK208.out 1; have hfz6_2 := blk_frozen BK208.out 2; have hfz6_3 := blk_frozen BK208.out 3; have hfz6_4 := blk_frozen BK208.out 4; have hfz6_5 := blk_frozen BK208.out 5; have hfz6_6 := blk_frozen BK208.out 6; have hfz6_7 := blk_frozen BK208.out 7; have hfz6_8 := blk_frozen BK208.out 8))
    go_ret
    exact ⟨by first | rfl | (simp [errW_none, errW_some] <;> rfl) | (simp [*, errW_none, errW_some] <;> rfl), by repeat (first | (with_reducible first | exact HB.out | apply below_alloc | apply pw_below_drewN | apply below_drew1 | refine below_set ?_ GE208.out) | exact HB.out)⟩
  · rw [if_neg c4] at H
    have c4b0 : (a0_0 == a1) = false := beq_eq_false_iff_ne.mpr c4
    have c4b1 : (a0_0 != a1) = true := bne_iff_ne.mpr c4
    obtain rfl := Option.some.inj H
    go_enter Try.func34, Try.ntmps34
    go_wp2_with (first | ((with_reducible refine gate_dst (N := 3) rfl ?_); refine box_event ?hg (N := 3) ?hd (cs := #[.int .i64 a0_0, .int .i64 a0_1, .int .i64 a0_2, .int .i64 a0_3, .int .i64 a0_4, .int .i64 a0_5, .int .i64 a0_6, .int .i64 a0_7, .int .i64 a0_8]) (t := 29) ?hr ?_; (case hd => rfl); (case hg => rfl); (case hr => first | (go_simp; done) | (go_simp; rfl)); intro gb208 hg w7 hbox hb; have n0_ := Aside0.mk (below_step (by repeat (first | (with_reducible first | exact HB.out | apply below_alloc | apply pw_below_drewN | apply below_drew1) | exact HB.out)) hb); have n1_ := Aside0.mk (hbox); have n2_ := Aside0.mk ((by rw [hg]; exact (below_size (by repeat (first | (with_reducible first | exact HB.out | apply below_alloc | apply pw_below_drewN | apply below_drew1) | exact HB.out))) : w.heap.size ≤ gb208)); have n3_ := Aside0.mk ((by rw [hg]; exact (below_size (by repeat (first | (with_reducible first | exact HB.out | apply below_alloc | apply pw_below_drewN | apply below_drew1) | exact HB.out))) : w.heap.size ≤ gb208)); clear HB; have HB := n0_; have BK208 := n1_; have GW208 := n2_; have GE208 := n3_; clear n0_ n1_ n2_ n3_; clear hb hbox hg; have hcz8_0 : w7.cell? ⟨gb208, 0, none⟩ = some (.int .i64 a0_0) := (blk_cell BK208.out 0).trans rfl; have hcz8_1 : w7.cell? ⟨gb208, 1, none⟩ = some (.int .i64 a0_1) := (blk_cell BK208.out 1).trans rfl; have hcz8_2 : w7.cell? ⟨gb208, 2, none⟩ = some (.int .i64 a0_2) := (blk_cell BK208.out 2).trans rfl; have hcz8_3 : w7.cell? ⟨gb208, 3, none⟩ = some (.int .i64 a0_3) := (blk_cell BK208.out 3).trans rfl; have hcz8_4 : w7.cell? ⟨gb208, 4, none⟩ = some (.int .i64 a0_4) := (blk_cell BK208.out 4).trans rfl; have hcz8_5 : w7.cell? ⟨gb208, 5, none⟩ = some (.int .i64 a0_5) := (blk_cell BK208.out 5).trans rfl; have hcz8_6 : w7.cell? ⟨gb208, 6, none⟩ = some (.int .i64 a0_6) := (blk_cell BK208.out 6).trans rfl; have hcz8_7 : w7.cell? ⟨gb208, 7, none⟩ = some (.int .i64 a0_7) := (blk_cell BK208.out 7).trans rfl; have hcz8_8 : w7.cell? ⟨gb208, 8, none⟩ = some (.int .i64 a0_8) := (blk_cell BK208.out 8).trans rfl; have hfz8_0 := blk_frozen BK208.out 0; have hfz8_1 := blk_frozen BK208.out 1; have hfz8_2 := blk_frozen BK208.out 2; have hfz8_3 := blk_frozen BK208.out 3; have hfz8_4 := blk_frozen BK208.out 4; have hfz8_5 := blk_frozen BK208.out 5; have hfz8_6 := blk_frozen BK208.out 6; have hfz8_7 := blk_frozen BK208.out 7; have hfz8_8 := blk_frozen BK208.out 8))
    go_ret
    exact ⟨by first | rfl | (simp [errW_none, errW_some] <;> rfl) | (simp [*, errW_none, errW_some] <;> rfl), by repeat (first | (with_reducible first | exact HB.out | apply below_alloc | apply pw_below_drewN | apply below_drew1 | refine below_set ?_ GE208.out) | exact HB.out)⟩

end Go.Proofs.Ytalpemoodollpaa.P
-- Printed by hookprint.py (the session's own program, over the kit's print.py): checked by Lean like any text.
namespace Go.Proofs.Ytalpemoodollpaa.P
open Go.RowKit Go.Proofs.YtalpemoodollpaaW.PrintWords Go.Proofs.YtalpemoodollpaaW.PrintLast Go.Proofs.YtalpemoodollpaaW.PrintMore
attribute [local go_sem] max2_int min2_int max_two min_two max_three min_three max_four min_four   -- for this text's walks alone
set_option linter.unusedVariables false
set_option linter.unusedSimpArgs false

/-! ### damperlaw06_alive: function 35 -/
def damperlaw06_alive.f  : Option (Bool) := (message_Encode.f 6 1 0 0 0 0 0 0 2).bind fun bt209 => (if bt209.2 = 0 then (if (bt209.1.length : Int) = 37 then (if 0 < (bt209.1.length : Int) then (if (rd bt209.1 0) = 6 then (if 2 < (bt209.1.length : Int) then (if (rd bt209.1 2) = 2 then ((message_Is.f 3 1 0 0 0 0 0 0 0 3 1).bind fun t215 => (some t215)) else (some false)) else (none)) else (some false)) else (none)) else (some false)) else (some false))
set_option maxHeartbeats 8000000 in
set_option maxRecDepth 100000 in
theorem damperlaw06_alive.calls  (r : Bool) (w : World) (h : damperlaw06_alive.f  = some r) :
    Calls Try.prog 35 #[] w fun e w' => e = .returned (.bool r) ∧ Below w.heap.size w w' := by
  have hu29 := Try.underlying29
  have HB := Aside0.mk (Below.refl w.heap.size w)
  have H : ((message_Encode.f 6 1 0 0 0 0 0 0 2).bind fun bt209 => (if bt209.2 = 0 then (if (bt209.1.length : Int) = 37 then (if 0 < (bt209.1.length : Int) then (if (rd bt209.1 0) = 6 then (if 2 < (bt209.1.length : Int) then (if (rd bt209.1 2) = 2 then ((message_Is.f 3 1 0 0 0 0 0 0 0 3 1).bind fun t215 => (some t215)) else (some false)) else (none)) else (some false)) else (none)) else (some false)) else (some false))) = some r := h
  clear h
  replace H := Option.bind_eq_some_iff.mp H
  obtain ⟨⟨t209, t212⟩, A10, H⟩ := H
  replace H : (if t212 = 0 then (if (t209.length : Int) = 37 then (if 0 < (t209.length : Int) then (if (rd t209 0) = 6 then (if 2 < (t209.length : Int) then (if (rd t209 2) = 2 then ((message_Is.f 3 1 0 0 0 0 0 0 0 3 1).bind fun t215 => (some t215)) else (some false)) else (none)) else (some false)) else (none)) else (some false)) else (some false)) = some r := H
  have A1 := Aside0.mk A10
  clear A10
  by_cases c2 : t212 = 0
  · rw [if_pos c2] at H
    have c2b0 : (t212 == 0) = true := beq_iff_eq.mpr c2
    have c2b1 : (t212 != 0) = false := bne_eq_false_iff_eq.mpr c2
    clear c2
    by_cases c3 : (t209.length : Int) = 37
    · rw [if_pos c3] at H
      have c3b0 : ((t209.length : Int) == 37) = true := beq_iff_eq.mpr c3
      have c3b1 : ((t209.length : Int) != 37) = false := bne_eq_false_iff_eq.mpr c3
      clear c3
      by_cases c4 : 0 < (t209.length : Int)
      · rw [if_pos c4] at H
        have c4b0 : decide (0 < (t209.length : Int)) = true := decide_eq_true c4
        have c4b1 : decide (0 < t209.length) = true := decide_eq_true (by omega)
        clear c4
        by_cases c5 : (rd t209 0) = 6
        · rw [if_pos c5] at H
          have c5b0 : ((rd t209 0) == 6) = true := beq_iff_eq.mpr c5
          have c5b1 : ((rd t209 0) != 6) = false := bne_eq_false_iff_eq.mpr c5
          clear c5
          by_cases c6 : 2 < (t209.length : Int)
          · rw [if_pos c6] at H
            have c6b0 : decide (2 < (t209.length : Int)) = true := decide_eq_true c6
            have c6b1 : decide (2 < t209.length) = true := decide_eq_true (by omega)
            clear c6
            by_cases c7 : (rd t209 2) = 2
            · rw [if_pos c7] at H
              have c7b0 : ((rd t209 2) == 2) = true := beq_iff_eq.mpr c7
              have c7b1 : ((rd t209 2) != 2) = false := bne_eq_false_iff_eq.mpr c7
              clear c7
              replace H := Option.bind_eq_some_iff.mp H
              obtain ⟨t215, A80, H⟩ := H
              replace H : (some t215) = some r := H
              have A8 := Aside0.mk A80
              clear A80
              obtain rfl := Option.some.inj H
              go_enter Try.func35, Try.ntmps35
              go_wp2_with (first | ((with_reducible refine gate_callee (f := 29) rfl ?_); refine goesL_ (some 5) rfl rfl Try.func29 (by kernel_rfl) rfl #[.agg #[.int .i64 6, .int .i64 1, .int .i64 0, .int .i64 0, .int .i64 0, .int .i64 0, .int .i64 0, .int .i64 0, .int .i64 2]] rfl (by (try simp only [List.map_toArray, List.map_cons, List.map_nil]); first | done | rfl | (simp only [List.length_drop, List.length_take]; rfl)) ?_; (with_reducible refine (message_Encode.calls 6 1 0 0 0 0 0 0 2 t209 t212 _ A1.out).mono ?_); rintro e w9 ⟨v210, rfl, ho0, hb⟩; refine ⟨_, rfl, ?_⟩; have n0_ := Aside0.mk (Kd.R_lower ho0 (below_size (by repeat (first | (with_reducible first | exact HB.out | apply below_alloc | apply pw_below_drewN | apply below_drew1) | exact HB.out)))); have n1_ := Aside0.mk (below_step (by repeat (first | (with_reducible first | exact HB.out | apply below_alloc | apply pw_below_drewN | apply below_drew1) | exact HB.out)) hb); clear HB; have HO211 := n0_; have HB := n1_; clear n0_ n1_; (try clear hb); (try clear hb2); (try clear hk); (try clear hi); (try clear ho0); obtain ⟨Ao10, co10, eo10⟩ := Kd.R_slice HO211.out; subst eo10; have p213 : 0 ≤ (0 : Int) := (by omega); have q213 : 0 < (t209.length : Int) := of_decide_eq_true (by first | (with_reducible assumption) | assumption); obtain ⟨ad213, e213, hx213_0⟩ := Kd.at_int (Kd.R_reads' HO211.out).2.2 0 p213 q213; cases e213; have qi213 : (0 < t209.length) = True := eq_true (by omega); (try rw [show ((0 : Int)).toNat = 0 from rfl] at hx213_0); (try rw [Addr.add_zero'] at hx213_0); replace p213 := eq_true p213; replace q213 := eq_true q213; have p214 : 0 ≤ (2 : Int) := (by omega); have q214 : 2 < (t209.length : Int) := of_decide_eq_true (by first | (with_reducible assumption) | assumption); obtain ⟨ad214, e214, hx214_0⟩ := Kd.at_int (Kd.R_reads' HO211.out).2.2 2 p214 q214; obtain rfl : ad213 = ad214 := (by injection e214); (try simp only [show (2 : Int).toNat = 2 from rfl, Nat.reduceMul, Nat.reduceEqDiff, Go.Addr.add, ↓reduceIte] at hx214_0); have qi214 : (2 < t209.length) = True := eq_true (by omega); (try rw [show ((2 : Int)).toNat = 2 from rfl] at hx214_0); replace p214 := eq_true p214; replace q214 := eq_true q214) | (go_at_call 34; (with_reducible refine (message_Is.calls 3 1 0 0 0 0 0 0 0 3 1 t215 _ A8.out).mono ?_); rintro e w11 ⟨rfl, hb⟩; have n0_ := Aside0.mk (Kd.R_below (by (with_reducible repeat (first | apply Kd.R_alloc | apply Kd.R_drewN | apply Kd.R_drew)); exact HO211.out) hb); have n1_ := Aside0.mk (below_step (by repeat (first | (with_reducible first | exact HB.out | apply below_alloc | apply pw_below_drewN | apply below_drew1) | exact HB.out)) hb); clear HO211; clear HB; have HO211 := n0_; have HB := n1_; clear n0_ n1_; (try clear hb); (try clear hb2); (try clear hk); (try clear hi)))
              go_ret
              exact ⟨by first | rfl | (simp [errW_none, errW_some] <;> rfl) | (simp [*, errW_none, errW_some] <;> rfl), by repeat (first | (with_reducible first | exact HB.out | apply below_alloc | apply pw_below_drewN | apply below_drew1) | exact HB.out)⟩
            · rw [if_neg c7] at H
              have c7b0 : ((rd t209 2) == 2) = false := beq_eq_false_iff_ne.mpr c7
              have c7b1 : ((rd t209 2) != 2) = true := bne_iff_ne.mpr c7
              obtain rfl := Option.some.inj H
              go_enter Try.func35, Try.ntmps35
              go_wp2_with (first | ((with_reducible refine gate_callee (f := 29) rfl ?_); refine goesL_ (some 5) rfl rfl Try.func29 (by kernel_rfl) rfl #[.agg #[.int .i64 6, .int .i64 1, .int .i64 0, .int .i64 0, .int .i64 0, .int .i64 0, .int .i64 0, .int .i64 0, .int .i64 2]] rfl (by (try simp only [List.map_toArray, List.map_cons, List.map_nil]); first | done | rfl | (simp only [List.length_drop, List.length_take]; rfl)) ?_; (with_reducible refine (message_Encode.calls 6 1 0 0 0 0 0 0 2 t209 t212 _ A1.out).mono ?_); rintro e w12 ⟨v210, rfl, ho0, hb⟩; refine ⟨_, rfl, ?_⟩; have n0_ := Aside0.mk (Kd.R_lower ho0 (below_size (by repeat (first | (with_reducible first | exact HB.out | apply below_alloc | apply pw_below_drewN | apply below_drew1) | exact HB.out)))); have n1_ := Aside0.mk (below_step (by repeat (first | (with_reducible first | exact HB.out | apply below_alloc | apply pw_below_drewN | apply below_drew1) | exact HB.out)) hb); clear HB; have HO211 := n0_; have HB := n1_; clear n0_ n1_; (try clear hb); (try clear hb2); (try clear hk); (try clear hi); (try clear ho0); obtain ⟨Ao13, co13, eo13⟩ := Kd.R_slice HO211.out; subst eo13; have p213 : 0 ≤ (0 : Int) := (by omega); have q213 : 0 < (t209.length : Int) := of_decide_eq_true (by first | (with_reducible assumption) | assumption); obtain ⟨ad213, e213, hx213_0⟩ := Kd.at_int (Kd.R_reads' HO211.out).2.2 0 p213 q213; cases e213; have qi213 : (0 < t209.length) = True := eq_true (by omega); (try rw [show ((0 : Int)).toNat = 0 from rfl] at hx213_0); (try rw [Addr.add_zero'] at hx213_0); replace p213 := eq_true p213; replace q213 := eq_true q213; have p214 : 0 ≤ (2 : Int) := (by omega); have q214 : 2 < (t209.length : Int) := of_decide_eq_true (by first | (with_reducible assumption) | assumption); obtain ⟨ad214, e214, hx214_0⟩ := Kd.at_int (Kd.R_reads' HO211.out).2.2 2 p214 q214; obtain rfl : ad213 = ad214 := (by injection e214); (try simp only [show (2 : Int).toNat = 2 from rfl, Nat.reduceMul, Nat.reduceEqDiff, Go.Addr.add, ↓reduceIte] at hx214_0); have qi214 : (2 < t209.length) = True := eq_true (by omega); (try rw [show ((2 : Int)).toNat = 2 from rfl] at hx214_0); replace p214 := eq_true p214; replace q214 := eq_true q214))
              go_ret
              exact ⟨by first | rfl | (simp [errW_none, errW_some] <;> rfl) | (simp [*, errW_none, errW_some] <;> rfl), by repeat (first | (with_reducible first | exact HB.out | apply below_alloc | apply pw_below_drewN | apply below_drew1) | exact HB.out)⟩
          · rw [if_neg c6] at H
            exact absurd H (by simp)
        · rw [if_neg c5] at H
          have c5b0 : ((rd t209 0) == 6) = false := beq_eq_false_iff_ne.mpr c5
          have c5b1 : ((rd t209 0) != 6) = true := bne_iff_ne.mpr c5
          obtain rfl := Option.some.inj H
          go_enter Try.func35, Try.ntmps35
          go_wp2_with (first | ((with_reducible refine gate_callee (f := 29) rfl ?_); refine goesL_ (some 5) rfl rfl Try.func29 (by kernel_rfl) rfl #[.agg #[.int .i64 6, .int .i64 1, .int .i64 0, .int .i64 0, .int .i64 0, .int .i64 0, .int .i64 0, .int .i64 0, .int .i64 2]] rfl (by (try simp only [List.map_toArray, List.map_cons, List.map_nil]); first | done | rfl | (simp only [List.length_drop, List.length_take]; rfl)) ?_; (with_reducible refine (message_Encode.calls 6 1 0 0 0 0 0 0 2 t209 t212 _ A1.out).mono ?_); rintro e w14 ⟨v210, rfl, ho0, hb⟩; refine ⟨_, rfl, ?_⟩; have n0_ := Aside0.mk (Kd.R_lower ho0 (below_size (by repeat (first | (with_reducible first | exact HB.out | apply below_alloc | apply pw_below_drewN | apply below_drew1) | exact HB.out)))); have n1_ := Aside0.mk (below_step (by repeat (first | (with_reducible first | exact HB.out | apply below_alloc | apply pw_below_drewN | apply below_drew1) | exact HB.out)) hb); clear HB; have HO211 := n0_; have HB := n1_; clear n0_ n1_; (try clear hb); (try clear hb2); (try clear hk); (try clear hi); (try clear ho0); obtain ⟨Ao15, co15, eo15⟩ := Kd.R_slice HO211.out; subst eo15; have p213 : 0 ≤ (0 : Int) := (by omega); have q213 : 0 < (t209.length : Int) := of_decide_eq_true (by first | (with_reducible assumption) | assumption); obtain ⟨ad213, e213, hx213_0⟩ := Kd.at_int (Kd.R_reads' HO211.out).2.2 0 p213 q213; cases e213; have qi213 : (0 < t209.length) = True := eq_true (by omega); (try rw [show ((0 : Int)).toNat = 0 from rfl] at hx213_0); (try rw [Addr.add_zero'] at hx213_0); replace p213 := eq_true p213; replace q213 := eq_true q213))
          go_ret
          exact ⟨by first | rfl | (simp [errW_none, errW_some] <;> rfl) | (simp [*, errW_none, errW_some] <;> rfl), by repeat (first | (with_reducible first | exact HB.out | apply below_alloc | apply pw_below_drewN | apply below_drew1) | exact HB.out)⟩
      · rw [if_neg c4] at H
        exact absurd H (by simp)
    · rw [if_neg c3] at H
      have c3b0 : ((t209.length : Int) == 37) = false := beq_eq_false_iff_ne.mpr c3
      have c3b1 : ((t209.length : Int) != 37) = true := bne_iff_ne.mpr c3
      obtain rfl := Option.some.inj H
      go_enter Try.func35, Try.ntmps35
      go_wp2_with (first | ((with_reducible refine gate_callee (f := 29) rfl ?_); refine goesL_ (some 5) rfl rfl Try.func29 (by kernel_rfl) rfl #[.agg #[.int .i64 6, .int .i64 1, .int .i64 0, .int .i64 0, .int .i64 0, .int .i64 0, .int .i64 0, .int .i64 0, .int .i64 2]] rfl (by (try simp only [List.map_toArray, List.map_cons, List.map_nil]); first | done | rfl | (simp only [List.length_drop, List.length_take]; rfl)) ?_; (with_reducible refine (message_Encode.calls 6 1 0 0 0 0 0 0 2 t209 t212 _ A1.out).mono ?_); rintro e w16 ⟨v210, rfl, ho0, hb⟩; refine ⟨_, rfl, ?_⟩; have n0_ := Aside0.mk (Kd.R_lower ho0 (below_size (by repeat (first | (with_reducible first | exact HB.out | apply below_alloc | apply pw_below_drewN | apply below_drew1) | exact HB.out)))); have n1_ := Aside0.mk (below_step (by repeat (first | (with_reducible first | exact HB.out | apply below_alloc | apply pw_below_drewN | apply below_drew1) | exact HB.out)) hb); clear HB; have HO211 := n0_; have HB := n1_; clear n0_ n1_; (try clear hb); (try clear hb2); (try clear hk); (try clear hi); (try clear ho0); obtain ⟨Ao17, co17, eo17⟩ := Kd.R_slice HO211.out; subst eo17))
      go_ret
      exact ⟨by first | rfl | (simp [errW_none, errW_some] <;> rfl) | (simp [*, errW_none, errW_some] <;> rfl), by repeat (first | (with_reducible first | exact HB.out | apply below_alloc | apply pw_below_drewN | apply below_drew1) | exact HB.out)⟩
  · rw [if_neg c2] at H
    have c2b0 : (t212 == 0) = false := beq_eq_false_iff_ne.mpr c2
    have c2b1 : (t212 != 0) = true := bne_iff_ne.mpr c2
    obtain rfl := Option.some.inj H
    go_enter Try.func35, Try.ntmps35
    go_wp2_with (first | ((with_reducible refine gate_callee (f := 29) rfl ?_); refine goesL_ (some 5) rfl rfl Try.func29 (by kernel_rfl) rfl #[.agg #[.int .i64 6, .int .i64 1, .int .i64 0, .int .i64 0, .int .i64 0, .int .i64 0, .int .i64 0, .int .i64 0, .int .i64 2]] rfl (by (try simp only [List.map_toArray, List.map_cons, List.map_nil]); first | done | rfl | (simp only [List.length_drop, List.length_take]; rfl)) ?_; (with_reducible refine (message_Encode.calls 6 1 0 0 0 0 0 0 2 t209 t212 _ A1.out).mono ?_); rintro e w18 ⟨v210, rfl, ho0, hb⟩; refine ⟨_, rfl, ?_⟩; have n0_ := Aside0.mk (Kd.R_lower ho0 (below_size (by repeat (first | (with_reducible first | exact HB.out | apply below_alloc | apply pw_below_drewN | apply below_drew1) | exact HB.out)))); have n1_ := Aside0.mk (below_step (by repeat (first | (with_reducible first | exact HB.out | apply below_alloc | apply pw_below_drewN | apply below_drew1) | exact HB.out)) hb); clear HB; have HO211 := n0_; have HB := n1_; clear n0_ n1_; (try clear hb); (try clear hb2); (try clear hk); (try clear hi); (try clear ho0)))
    go_ret
    exact ⟨by first | rfl | (simp [errW_none, errW_some] <;> rfl) | (simp [*, errW_none, errW_some] <;> rfl), by repeat (first | (with_reducible first | exact HB.out | apply below_alloc | apply pw_below_drewN | apply below_drew1) | exact HB.out)⟩

end Go.Proofs.Ytalpemoodollpaa.P
-- Printed by hookprint.py (the session's own program, over the kit's print.py): checked by Lean like any text.
namespace Go.Proofs.Ytalpemoodollpaa.P
open Go.RowKit Go.Proofs.YtalpemoodollpaaW.PrintWords Go.Proofs.YtalpemoodollpaaW.PrintLast Go.Proofs.YtalpemoodollpaaW.PrintMore
attribute [local go_sem] max2_int min2_int max_two min_two max_three min_three max_four min_four   -- for this text's walks alone
set_option linter.unusedVariables false
set_option linter.unusedSimpArgs false

theorem eqA29 (d : Nat) (w : World) (x0 y0 : Int) (x1 y1 : Int) (x2 y2 : Int) (x3 y3 : Int) (x4 y4 : Int) (x5 y5 : Int) (x6 y6 : Int) (x7 y7 : Int) (x8 y8 : Int) :
    (Op.equalIn (d + 2) 29 (.agg #[.int .i64 x0, .int .i64 x1, .int .i64 x2, .int .i64 x3, .int .i64 x4, .int .i64 x5, .int .i64 x6, .int .i64 x7, .int .i64 x8]) (.agg #[.int .i64 y0, .int .i64 y1, .int .i64 y2, .int .i64 y3, .int .i64 y4, .int .i64 y5, .int .i64 y6, .int .i64 y7, .int .i64 y8])).run Try.prog w = .ok (x0 == y0 && (x1 == y1 && (x2 == y2 && (x3 == y3 && (x4 == y4 && (x5 == y5 && (x6 == y6 && (x7 == y7 && (x8 == y8))))))))) w := by
  refine eqA_of Try.underlying29 (by kernel_rfl) ?_
  refine eqf_cons (by rfl) (by go_simp; rfl) (by go_simp; rfl) (by go_simp) ?_
  refine eqf_cons (by rfl) (by go_simp; rfl) (by go_simp; rfl) (by go_simp) ?_
  refine eqf_cons (by rfl) (by go_simp; rfl) (by go_simp; rfl) (by go_simp) ?_
  refine eqf_cons (by rfl) (by go_simp; rfl) (by go_simp; rfl) (by go_simp) ?_
  refine eqf_cons (by rfl) (by go_simp; rfl) (by go_simp; rfl) (by go_simp) ?_
  refine eqf_cons (by rfl) (by go_simp; rfl) (by go_simp; rfl) (by go_simp) ?_
  refine eqf_cons (by rfl) (by go_simp; rfl) (by go_simp; rfl) (by go_simp) ?_
  refine eqf_cons (by rfl) (by go_simp; rfl) (by go_simp; rfl) (by go_simp) ?_
  exact eqf_last (by rfl) (by go_simp; rfl) (by go_simp; rfl) (by go_simp)
end Go.Proofs.Ytalpemoodollpaa.P
-- Printed by hookprint.py (the session's own program, over the kit's print.py): checked by Lean like any text.
namespace Go.Proofs.Ytalpemoodollpaa.P
open Go.RowKit Go.Proofs.YtalpemoodollpaaW.PrintWords Go.Proofs.YtalpemoodollpaaW.PrintLast Go.Proofs.YtalpemoodollpaaW.PrintMore
attribute [local go_sem] max2_int min2_int max_two min_two max_three min_three max_four min_four   -- for this text's walks alone
set_option linter.unusedVariables false
set_option linter.unusedSimpArgs false

attribute [local go_sem high] eqA29
/-! ### damperref06_Lists: function 59 -/
def damperref06_Lists.l0 : Nat → List (S29) → List (S29) → Int → Option (Bool)
  | 0, _, _, _ => none
  | k + 1, x0, x1, x5 => if x5 < (x0.length : Int) then (if 0 ≤ x5 then (if x5 < (x1.length : Int) then (if (!(((rd_T29 x0 x5).f0) == ((rd_T29 x1 x5).f0)) || (!(((rd_T29 x0 x5).f1) == ((rd_T29 x1 x5).f1)) || (!(((rd_T29 x0 x5).f2) == ((rd_T29 x1 x5).f2)) || (!(((rd_T29 x0 x5).f3) == ((rd_T29 x1 x5).f3)) || (!(((rd_T29 x0 x5).f4) == ((rd_T29 x1 x5).f4)) || (!(((rd_T29 x0 x5).f5) == ((rd_T29 x1 x5).f5)) || (!(((rd_T29 x0 x5).f6) == ((rd_T29 x1 x5).f6)) || (!(((rd_T29 x0 x5).f7) == ((rd_T29 x1 x5).f7)) || (!(((rd_T29 x0 x5).f8) == ((rd_T29 x1 x5).f8))))))))))) = true then (some false) else (damperref06_Lists.l0 k x0 x1 (wrap64 (x5 + 1)))) else (none)) else (none)) else (some true)
def damperref06_Lists.f (k : Nat) (l0 : List (S29)) (l1 : List (S29)) : Option (Bool) := if (l0.length : Int) = (l1.length : Int) then (damperref06_Lists.l0 k l0 l1 0) else (some false)
theorem damperref06_Lists.mono_l : ∀ k, (∀ y0 y1 y2, LeO (damperref06_Lists.l0 k y0 y1 y2) (damperref06_Lists.l0 (k + 1) y0 y1 y2))
  | 0 => fun _ _ _ r h => by simp [damperref06_Lists.l0] at h
  | k + 1 => by
    have ih0 := damperref06_Lists.mono_l k
    · intro y0 y1 y2
      unfold damperref06_Lists.l0
      repeat' first
      | (with_reducible exact ih0 _ _ _)
      | (with_reducible exact LeO.refl _)
      | (with_reducible exact LeO.none _)
      | (with_reducible refine LeO.ite ?_ ?_)
      | (with_reducible refine LeO.bind ?_ (fun _ => ?_))
      | exact ih0 _ _ _
      | exact LeO.none _
      | refine LeO.ite ?_ ?_
      | refine LeO.bind ?_ (fun _ => ?_)
theorem damperref06_Lists.mono : ∀ a0 a1 k, LeO (damperref06_Lists.f k a0 a1) (damperref06_Lists.f (k + 1) a0 a1) := by
  intro a0 a1 k
  have ih0 := damperref06_Lists.mono_l k
  unfold damperref06_Lists.f
  repeat' first
      | (with_reducible exact ih0 _ _ _)
      | (with_reducible exact LeO.refl _)
      | (with_reducible exact LeO.none _)
      | (with_reducible refine LeO.ite ?_ ?_)
      | (with_reducible refine LeO.bind ?_ (fun _ => ?_))
      | exact ih0 _ _ _
      | exact LeO.none _
      | refine LeO.ite ?_ ?_
      | refine LeO.bind ?_ (fun _ => ?_)
set_option maxHeartbeats 8000000 in
set_option maxRecDepth 100000 in
theorem damperref06_Lists.calls (k : Nat) (A0 : Option Addr) (c0 : Nat) (l0 : List (S29)) (A1 : Option Addr) (c1 : Nat) (l1 : List (S29)) (r : Bool) (w : World) (hr0 : Kd.C k29 w A0 l0.length l0) (hc0 : l0.length ≤ c0) (hr1 : Kd.C k29 w A1 l1.length l1) (hc1 : l1.length ≤ c1) (h : damperref06_Lists.f k l0 l1 = some r) :
    Calls Try.prog 59 #[.slice A0 l0.length c0, .slice A1 l1.length c1] w fun e w' => e = .returned (.bool r) ∧ Drawn0 w w' := by
  have hu29 := Try.underlying29
  have HR0 := Aside0.mk hr0
  have HC0 := Aside0.mk hc0
  clear hr0 hc0
  have HR1 := Aside0.mk hr1
  have HC1 := Aside0.mk hc1
  clear hr1 hc1
  have H : (if (l0.length : Int) = (l1.length : Int) then (damperref06_Lists.l0 k l0 l1 0) else (some false)) = some r := h
  clear h
  by_cases c3 : (l0.length : Int) = (l1.length : Int)
  · rw [if_pos c3] at H
    have c3b0 : ((l0.length : Int) == (l1.length : Int)) = true := beq_iff_eq.mpr c3
    have c3b1 : ((l0.length : Int) != (l1.length : Int)) = false := bne_eq_false_iff_eq.mpr c3
    have c3b2 : (l0.length == l1.length) = true := by first | simpa using c3 | (simp at c3 ⊢; omega)
    clear c3
    have H' := Aside0.mk H
    clear H
    go_enter Try.func59, Try.ntmps59
    go_wp2
    repeat (go_quiet (fail); try go_wp2)
    go_loopg [5] k (fun kq v5 w' => ∃ (x5_1 : Int), v5 = .int .i64 x5_1 ∧ Aside0 (damperref06_Lists.l0 kq l0 l1 x5_1 = some r) ∧ Aside0 (kq ≤ k) ∧ Drawn0 w w')
    case atStart => exact ⟨(0), (by first | rfl | (simp; done) | (simp [*]; done)), H', ⟨Nat.le_refl _⟩, by repeat (first | exact Drawn0.refl _ | apply Drawn0.step)⟩
    case round =>
      clear H'
      try clear c1
      try clear p2
      try clear c3
      try clear c3b0
      try clear c3b1
      try clear c3b2
      obtain ⟨x5_1, rfl, HA, HK1, ⟨m1, rfl⟩⟩ := hrel
      cases gk with
      | zero => exact absurd HA.out (by simp [damperref06_Lists.l0])
      | succ k1 =>
        have H := HA.out
        clear HA
        simp only [damperref06_Lists.l0] at H
        by_cases c4 : x5_1 < (l0.length : Int)
        · rw [if_pos c4] at H
          have c4b0 : decide (x5_1 < (l0.length : Int)) = true := decide_eq_true c4
          clear c4
          by_cases c5 : 0 ≤ x5_1
          · rw [if_pos c5] at H
            have c5b0 : decide (0 ≤ x5_1) = true := decide_eq_true c5
            clear c5
            by_cases c6 : x5_1 < (l1.length : Int)
            · rw [if_pos c6] at H
              have c6b0 : decide (x5_1 < (l1.length : Int)) = true := decide_eq_true c6
              clear c6
              by_cases c7 : (!(((rd_T29 l0 x5_1).f0) == ((rd_T29 l1 x5_1).f0)) || (!(((rd_T29 l0 x5_1).f1) == ((rd_T29 l1 x5_1).f1)) || (!(((rd_T29 l0 x5_1).f2) == ((rd_T29 l1 x5_1).f2)) || (!(((rd_T29 l0 x5_1).f3) == ((rd_T29 l1 x5_1).f3)) || (!(((rd_T29 l0 x5_1).f4) == ((rd_T29 l1 x5_1).f4)) || (!(((rd_T29 l0 x5_1).f5) == ((rd_T29 l1 x5_1).f5)) || (!(((rd_T29 l0 x5_1).f6) == ((rd_T29 l1 x5_1).f6)) || (!(((rd_T29 l0 x5_1).f7) == ((rd_T29 l1 x5_1).f7)) || (!(((rd_T29 l0 x5_1).f8) == ((rd_T29 l1 x5_1).f8))))))))))) = true
              · rw [if_pos c7] at H
                have c7b0 : (!(((rd_T29 l0 x5_1).f0) == ((rd_T29 l1 x5_1).f0)) || (!(((rd_T29 l0 x5_1).f1) == ((rd_T29 l1 x5_1).f1)) || (!(((rd_T29 l0 x5_1).f2) == ((rd_T29 l1 x5_1).f2)) || (!(((rd_T29 l0 x5_1).f3) == ((rd_T29 l1 x5_1).f3)) || (!(((rd_T29 l0 x5_1).f4) == ((rd_T29 l1 x5_1).f4)) || (!(((rd_T29 l0 x5_1).f5) == ((rd_T29 l1 x5_1).f5)) || (!(((rd_T29 l0 x5_1).f6) == ((rd_T29 l1 x5_1).f6)) || (!(((rd_T29 l0 x5_1).f7) == ((rd_T29 l1 x5_1).f7)) || (!(((rd_T29 l0 x5_1).f8) == ((rd_T29 l1 x5_1).f8))))))))))) = true := c7
                clear c7
                obtain rfl := Option.some.inj H
                have p368 : 0 ≤ (x5_1 : Int) := of_decide_eq_true (by first | (with_reducible assumption) | assumption)
                have q368 : x5_1 < (l0.length : Int) := of_decide_eq_true (by first | (with_reducible assumption) | assumption)
                obtain ⟨ad368, e368, hx368_0, hx368_1, hx368_2, hx368_3, hx368_4, hx368_5, hx368_6, hx368_7, hx368_8⟩ := at_T29 HR0.out x5_1 p368 q368
                cases e368
                replace p368 := eq_true p368
                replace q368 := eq_true q368
                have p369 : 0 ≤ (x5_1 : Int) := of_decide_eq_true (by first | (with_reducible assumption) | assumption)
                have q369 : x5_1 < (l1.length : Int) := of_decide_eq_true (by first | (with_reducible assumption) | assumption)
                obtain ⟨ad369, e369, hx369_0, hx369_1, hx369_2, hx369_3, hx369_4, hx369_5, hx369_6, hx369_7, hx369_8⟩ := at_T29 HR1.out x5_1 p369 q369
                cases e369
                replace p369 := eq_true p369
                replace q369 := eq_true q369
                go_wp2
                repeat (go_quiet (fail); try go_wp2)
                go_ret
                exact ⟨by first | rfl | (simp; done) | (simp [*]; done), by repeat (first | exact Drawn0.refl _ | apply Drawn0.step)⟩
              · rw [if_neg c7] at H
                have c7b0 : (!(((rd_T29 l0 x5_1).f0) == ((rd_T29 l1 x5_1).f0)) || (!(((rd_T29 l0 x5_1).f1) == ((rd_T29 l1 x5_1).f1)) || (!(((rd_T29 l0 x5_1).f2) == ((rd_T29 l1 x5_1).f2)) || (!(((rd_T29 l0 x5_1).f3) == ((rd_T29 l1 x5_1).f3)) || (!(((rd_T29 l0 x5_1).f4) == ((rd_T29 l1 x5_1).f4)) || (!(((rd_T29 l0 x5_1).f5) == ((rd_T29 l1 x5_1).f5)) || (!(((rd_T29 l0 x5_1).f6) == ((rd_T29 l1 x5_1).f6)) || (!(((rd_T29 l0 x5_1).f7) == ((rd_T29 l1 x5_1).f7)) || (!(((rd_T29 l0 x5_1).f8) == ((rd_T29 l1 x5_1).f8))))))))))) = false := by simpa using c7
                clear c7
                have H' := Aside0.mk H
                clear H
                have p368 : 0 ≤ (x5_1 : Int) := of_decide_eq_true (by first | (with_reducible assumption) | assumption)
                have q368 : x5_1 < (l0.length : Int) := of_decide_eq_true (by first | (with_reducible assumption) | assumption)
                obtain ⟨ad368, e368, hx368_0, hx368_1, hx368_2, hx368_3, hx368_4, hx368_5, hx368_6, hx368_7, hx368_8⟩ := at_T29 HR0.out x5_1 p368 q368
                cases e368
                replace p368 := eq_true p368
                replace q368 := eq_true q368
                have p369 : 0 ≤ (x5_1 : Int) := of_decide_eq_true (by first | (with_reducible assumption) | assumption)
                have q369 : x5_1 < (l1.length : Int) := of_decide_eq_true (by first | (with_reducible assumption) | assumption)
                obtain ⟨ad369, e369, hx369_0, hx369_1, hx369_2, hx369_3, hx369_4, hx369_5, hx369_6, hx369_7, hx369_8⟩ := at_T29 HR1.out x5_1 p369 q369
                cases e369
                replace p369 := eq_true p369
                replace q369 := eq_true q369
                go_wp2
                repeat (go_quiet (fail); try go_wp2)
                go_roundg k1
                case measure => have := HK1.out; omega
                case rel => exact ⟨(wrap64 (x5_1 + 1)), (by first | rfl | (simp; done) | (simp [*]; done)), H', ⟨by have := HK1.out; omega⟩, by repeat (first | exact Drawn0.refl _ | apply Drawn0.step)⟩
            · rw [if_neg c6] at H
              exact absurd H (by simp)
          · rw [if_neg c5] at H
            exact absurd H (by simp)
        · rw [if_neg c4] at H
          have c4b0 : decide (x5_1 < (l0.length : Int)) = false := decide_eq_false c4
          clear c4
          obtain rfl := Option.some.inj H
          go_wp2
          repeat (go_quiet (fail); try go_wp2)
          go_ret
          exact ⟨by first | rfl | (simp; done) | (simp [*]; done), by repeat (first | exact Drawn0.refl _ | apply Drawn0.step)⟩
  · rw [if_neg c3] at H
    have c3b0 : ((l0.length : Int) == (l1.length : Int)) = false := beq_eq_false_iff_ne.mpr c3
    have c3b1 : ((l0.length : Int) != (l1.length : Int)) = true := bne_iff_ne.mpr c3
    have c3b2 : (l0.length == l1.length) = false := by first | simpa using c3 | (simp at c3 ⊢; omega)
    obtain rfl := Option.some.inj H
    go_enter Try.func59, Try.ntmps59
    go_wp2
    repeat (go_quiet (fail); try go_wp2)
    go_ret
    exact ⟨by first | rfl | (simp; done) | (simp [*]; done), by repeat (first | exact Drawn0.refl _ | apply Drawn0.step)⟩

end Go.Proofs.Ytalpemoodollpaa.P
-- Printed by hookprint.py (the session's own program, over the kit's print.py): checked by Lean like any text.
namespace Go.Proofs.Ytalpemoodollpaa.P
open Go.RowKit Go.Proofs.YtalpemoodollpaaW.PrintWords Go.Proofs.YtalpemoodollpaaW.PrintLast Go.Proofs.YtalpemoodollpaaW.PrintMore
attribute [local go_sem] max2_int min2_int max_two min_two max_three min_three max_four min_four   -- for this text's walks alone
set_option linter.unusedVariables false
set_option linter.unusedSimpArgs false

/-! ### message_Stream: function 92 -/
def message_Stream.l0 : Nat → List Int → List (S29) → Int → Int → Option (List Int × Int)
  | 0, _, _, _, _ => none
  | k + 1, x2, x9, x10, x11 => if x11 < x10 then (if 0 ≤ x11 then (if x11 < (x9.length : Int) then ((message_Encode.f ((rd_T29 x9 x11).f0) ((rd_T29 x9 x11).f1) ((rd_T29 x9 x11).f2) ((rd_T29 x9 x11).f3) ((rd_T29 x9 x11).f4) ((rd_T29 x9 x11).f5) ((rd_T29 x9 x11).f6) ((rd_T29 x9 x11).f7) ((rd_T29 x9 x11).f8)).bind fun bt357 => (if bt357.2 = 0 then ((frame_Put.f bt357.1).bind fun bt361 => (if bt361.2 = 0 then (if x2.length + bt361.1.length < 140737488355328 then (message_Stream.l0 k (x2 ++ bt361.1) x9 x10 (wrap64 (x11 + 1))) else (none)) else (some (([] : List Int), bt361.2)))) else (some (([] : List Int), bt357.2)))) else (none)) else (none)) else (some (x2, 0))
def message_Stream.f (k : Nat) (l0 : List (S29)) : Option (List Int × Int) := message_Stream.l0 k ([] : List Int) l0 (l0.length : Int) 0
theorem message_Stream.mono_l : ∀ k, (∀ y0 y1 y2 y3, LeO (message_Stream.l0 k y0 y1 y2 y3) (message_Stream.l0 (k + 1) y0 y1 y2 y3))
  | 0 => fun _ _ _ _ r h => by simp [message_Stream.l0] at h
  | k + 1 => by
    have ih0 := message_Stream.mono_l k
    · intro y0 y1 y2 y3
      unfold message_Stream.l0
      repeat' first
      | (with_reducible exact ih0 _ _ _ _)
      | (with_reducible exact LeO.refl _)
      | (with_reducible exact LeO.none _)
      | (with_reducible refine LeO.ite ?_ ?_)
      | (with_reducible refine LeO.bind ?_ (fun _ => ?_))
      | exact ih0 _ _ _ _
      | exact LeO.none _
      | refine LeO.ite ?_ ?_
      | refine LeO.bind ?_ (fun _ => ?_)
theorem message_Stream.mono : ∀ a0 k, LeO (message_Stream.f k a0) (message_Stream.f (k + 1) a0) := by
  intro a0 k
  have ih0 := message_Stream.mono_l k
  unfold message_Stream.f
  repeat' first
      | (with_reducible exact ih0 _ _ _ _)
      | (with_reducible exact LeO.refl _)
      | (with_reducible exact LeO.none _)
      | (with_reducible refine LeO.ite ?_ ?_)
      | (with_reducible refine LeO.bind ?_ (fun _ => ?_))
      | exact ih0 _ _ _ _
      | exact LeO.none _
      | refine LeO.ite ?_ ?_
      | refine LeO.bind ?_ (fun _ => ?_)
set_option maxHeartbeats 8000000 in
set_option maxRecDepth 100000 in
theorem message_Stream.calls (k : Nat) (A0 : Option Addr) (c0 : Nat) (l0 : List (S29)) (r1 : List Int) (r2 : Int) (w : World) (hr0 : Kd.C k29 w A0 l0.length l0) (hc0 : l0.length ≤ c0) (h : message_Stream.f k l0 = some (r1, r2)) :
    Calls Try.prog 92 #[.slice A0 l0.length c0] w fun e w' => ∃ v0_ : Value, e = .returned (.tuple #[v0_, .int .i64 r2]) ∧ Kd.R (Kd.int .u8) 5 w' w.heap.size (fun _ => True) v0_ r1 ∧ Below w.heap.size w w' := by
  have hu29 := Try.underlying29
  have HR0 := Aside0.mk hr0
  have HC0 := Aside0.mk hc0
  clear hr0 hc0
  have HB := Aside0.mk (Below.refl w.heap.size w)
  have H : (message_Stream.l0 k ([] : List Int) l0 (l0.length : Int) 0) = some (r1, r2) := h
  clear h
  have H' := Aside0.mk H
  clear H
  go_enter Try.func92, Try.ntmps92
  go_wp2
  go_loopg [2, 11] k (fun kq v2 v11 w' => ∃ (x2_1 : List Int) (x11_1 : Int), v11 = .int .i64 x11_1 ∧ Aside0 (message_Stream.l0 kq x2_1 l0 (l0.length : Int) x11_1 = some (r1, r2)) ∧ Aside0 (kq ≤ k) ∧ Aside0 (Kd.R (Kd.int .u8) 5 w' w.heap.size (fun _ => True) v2 x2_1) ∧ Aside0 (Below w.heap.size w w'))
  case atStart => exact ⟨(([] : List Int)), (0), (by first | rfl | (simp; done) | (simp [*]; done)), H', ⟨Nat.le_refl _⟩, ⟨by first | exact Kd.R_nil _ _ _ _ _ | exact Kd.N_nil _ _ _ _ _ | exact Kd.V_nil _ _ _ _ _ | exact Kd.Q_nil _ _ _ _ _ | exact Kd.S_nil _ _ _ _ _⟩, ⟨by repeat (first | (with_reducible first | exact HB.out | apply below_alloc | apply pw_below_drewN | apply below_drew1) | exact HB.out)⟩⟩
  case round =>
    clear H'
    obtain ⟨x2_1, x11_1, rfl, HA, HK1, HO_2, HB⟩ := hrel
    cases gk with
    | zero => exact absurd HA.out (by simp [message_Stream.l0])
    | succ k1 =>
      have H := HA.out
      clear HA
      simp only [message_Stream.l0] at H
      by_cases c2 : x11_1 < (l0.length : Int)
      · rw [if_pos c2] at H
        have c2b0 : decide (x11_1 < (l0.length : Int)) = true := decide_eq_true c2
        clear c2
        by_cases c3 : 0 ≤ x11_1
        · rw [if_pos c3] at H
          have c3b0 : decide (0 ≤ x11_1) = true := decide_eq_true c3
          clear c3
          by_cases c4 : x11_1 < (l0.length : Int)
          · rw [if_pos c4] at H
            have c4b0 : decide (x11_1 < (l0.length : Int)) = true := decide_eq_true c4
            clear c4
            replace H := Option.bind_eq_some_iff.mp H
            obtain ⟨⟨t357, t360⟩, A50, H⟩ := H
            replace H : (if t360 = 0 then ((frame_Put.f t357).bind fun bt361 => (if bt361.2 = 0 then (if x2_1.length + bt361.1.length < 140737488355328 then (message_Stream.l0 k1 (x2_1 ++ bt361.1) l0 (l0.length : Int) (wrap64 (x11_1 + 1))) else (none)) else (some (([] : List Int), bt361.2)))) else (some (([] : List Int), t360))) = some (r1, r2) := H
            have A5 := Aside0.mk A50
            clear A50
            by_cases c6 : t360 = 0
            · rw [if_pos c6] at H
              have c6b0 : (t360 == 0) = true := beq_iff_eq.mpr c6
              have c6b1 : (t360 != 0) = false := bne_eq_false_iff_eq.mpr c6
              clear c6
              replace H := Option.bind_eq_some_iff.mp H
              obtain ⟨⟨t361, t362⟩, A70, H⟩ := H
              replace H : (if t362 = 0 then (if x2_1.length + t361.length < 140737488355328 then (message_Stream.l0 k1 (x2_1 ++ t361) l0 (l0.length : Int) (wrap64 (x11_1 + 1))) else (none)) else (some (([] : List Int), t362))) = some (r1, r2) := H
              have A7 := Aside0.mk A70
              clear A70
              by_cases c8 : t362 = 0
              · rw [if_pos c8] at H
                have c8b0 : (t362 == 0) = true := beq_iff_eq.mpr c8
                have c8b1 : (t362 != 0) = false := bne_eq_false_iff_eq.mpr c8
                clear c8
                by_cases c9 : x2_1.length + t361.length < 140737488355328
                · rw [if_pos c9] at H
                  have LMc9 := Aside0.mk c9
                  clear c9
                  obtain ⟨y365, hy365⟩ : ∃ y_ : List Int, y_ = (x2_1 ++ t361) := ⟨_, rfl⟩
                  replace H : (message_Stream.l0 k1 y365 l0 (l0.length : Int) (wrap64 (x11_1 + 1))) = some (r1, r2) := by first | (rw [hy365]; with_reducible exact H) | (have H2_ := (Option.bind_some _ _).symm.trans H; rw [hy365]; with_reducible exact H2_) | (have H2_ := (Option.bind_some _ _).symm.trans H; with_reducible exact H2_) | with_reducible exact H | (rw [hy365]; exact H) | exact H
                  have Ny365 := Aside0.mk hy365
                  clear hy365
                  have H' := Aside0.mk H
                  clear H
                  have p355 : 0 ≤ (x11_1 : Int) := of_decide_eq_true (by first | (with_reducible assumption) | assumption)
                  have q355 : x11_1 < (l0.length : Int) := of_decide_eq_true (by first | (with_reducible assumption) | assumption)
                  obtain ⟨ad355, e355, hx355_0, hx355_1, hx355_2, hx355_3, hx355_4, hx355_5, hx355_6, hx355_7, hx355_8⟩ := at_T29 HR0.out x11_1 p355 q355
                  cases e355
                  replace hx355_0 := (HB.out.cell (World.block_lt_of_cell? w _ hx355_0)).trans hx355_0
                  replace hx355_1 := (HB.out.cell (World.block_lt_of_cell? w _ hx355_1)).trans hx355_1
                  replace hx355_2 := (HB.out.cell (World.block_lt_of_cell? w _ hx355_2)).trans hx355_2
                  replace hx355_3 := (HB.out.cell (World.block_lt_of_cell? w _ hx355_3)).trans hx355_3
                  replace hx355_4 := (HB.out.cell (World.block_lt_of_cell? w _ hx355_4)).trans hx355_4
                  replace hx355_5 := (HB.out.cell (World.block_lt_of_cell? w _ hx355_5)).trans hx355_5
                  replace hx355_6 := (HB.out.cell (World.block_lt_of_cell? w _ hx355_6)).trans hx355_6
                  replace hx355_7 := (HB.out.cell (World.block_lt_of_cell? w _ hx355_7)).trans hx355_7
                  replace hx355_8 := (HB.out.cell (World.block_lt_of_cell? w _ hx355_8)).trans hx355_8
                  replace p355 := eq_true p355
                  replace q355 := eq_true q355
                  go_wp2_with (first | ((with_reducible refine gate_dst (N := 5) rfl ?_); refine box_event ?hg (N := 5) ?hd (cs := #[.int .i64 0, .int .i64 0, .int .i64 0, .int .i64 0, .int .i64 0, .int .i64 0, .int .i64 0, .int .i64 0, .int .i64 0]) (t := 29) ?hr ?_; (case hd => rfl); (case hg => rfl); (case hr => first | (go_simp; done) | (go_simp; rfl)); intro gb356 hg w10 hbox hb; have n0_ := Aside0.mk (Kd.R_below (by (with_reducible repeat (first | apply Kd.R_alloc | apply Kd.R_drewN | apply Kd.R_drew)); exact HO_2.out) hb); have n1_ := Aside0.mk (below_step (by repeat (first | (with_reducible first | exact HB.out | apply below_alloc | apply pw_below_drewN | apply below_drew1) | exact HB.out)) hb); have n2_ := Aside0.mk (hbox); have n3_ := Aside0.mk ((by rw [hg]; exact (below_size (by repeat (first | (with_reducible first | exact HB.out | apply below_alloc | apply pw_below_drewN | apply below_drew1) | exact HB.out))) : w.heap.size ≤ gb356)); have n4_ := Aside0.mk ((by rw [hg]; exact (below_size (by repeat (first | (with_reducible first | exact HB.out | apply below_alloc | apply pw_below_drewN | apply below_drew1) | exact HB.out))) : w.heap.size ≤ gb356)); clear HO_2; clear HB; have HO_2 := n0_; have HB := n1_; have BK356 := n2_; have GW356 := n3_; have GE356 := n4_; clear n0_ n1_ n2_ n3_ n4_; clear hb hbox hg; have hcz11_0 : w10.cell? ⟨gb356, 0, none⟩ = some (.int .i64 0) := (blk_cell BK356.out 0).trans rfl; have hcz11_1 : w10.cell? ⟨gb356, 1, none⟩ = some (.int .i64 0) := (blk_cell BK356.out 1).trans rfl; have hcz11_2 : w10.cell? ⟨gb356, 2, none⟩ = some (.int .i64 0) := (blk_cell BK356.out 2).trans rfl; have hcz11_3 : w10.cell? ⟨gb356, 3, none⟩ = some (.int .i64 0) := (blk_cell BK356.out 3).trans rfl; have hcz11_4 : w10.cell? ⟨gb356, 4, none⟩ = some (.int .i64 0) := (blk_cell BK356.out 4).trans rfl; have hcz11_5 : w10.cell? ⟨gb356, 5, none⟩ = some (.int .i64 0) := (blk_cell BK356.out 5).trans rfl; have hcz11_6 : w10.cell? ⟨gb356, 6, none⟩ = some (.int .i64 0) := (blk_cell BK356.out 6).trans rfl; have hcz11_7 : w10.cell? ⟨gb356, 7, none⟩ = some (.int .i64 0) := (blk_cell BK356.out 7).trans rfl; have hcz11_8 : w10.cell? ⟨gb356, 8, none⟩ = some (.int .i64 0) := (blk_cell BK356.out 8).trans rfl; have hfz11_0 := blk_frozen BK356.out 0; have hfz11_1 := blk_frozen BK356.out 1; have hfz11_2 := blk_frozen BK356.out 2; have hfz11_3 := blk_frozen BK356.out 3; have hfz11_4 := blk_frozen BK356.out 4; have hfz11_5 := blk_frozen BK356.out 5; have hfz11_6 := blk_frozen BK356.out 6; have hfz11_7 := blk_frozen BK356.out 7; have hfz11_8 := blk_frozen BK356.out 8) | ((with_reducible refine gate_callee (f := 29) rfl ?_); refine goesL_ (some 17) rfl rfl Try.func29 (by kernel_rfl) rfl #[.agg #[.int .i64 ((rd_T29 l0 x11_1).f0), .int .i64 ((rd_T29 l0 x11_1).f1), .int .i64 ((rd_T29 l0 x11_1).f2), .int .i64 ((rd_T29 l0 x11_1).f3), .int .i64 ((rd_T29 l0 x11_1).f4), .int .i64 ((rd_T29 l0 x11_1).f5), .int .i64 ((rd_T29 l0 x11_1).f6), .int .i64 ((rd_T29 l0 x11_1).f7), .int .i64 ((rd_T29 l0 x11_1).f8)]] rfl (by (try simp only [List.map_toArray, List.map_cons, List.map_nil]); first | done | rfl | (simp only [List.length_drop, List.length_take]; rfl)) ?_; (with_reducible refine (message_Encode.calls ((rd_T29 l0 x11_1).f0) ((rd_T29 l0 x11_1).f1) ((rd_T29 l0 x11_1).f2) ((rd_T29 l0 x11_1).f3) ((rd_T29 l0 x11_1).f4) ((rd_T29 l0 x11_1).f5) ((rd_T29 l0 x11_1).f6) ((rd_T29 l0 x11_1).f7) ((rd_T29 l0 x11_1).f8) t357 t360 _ A5.out).mono ?_); rintro e w12 ⟨v358, rfl, ho0, hb⟩; refine ⟨_, rfl, ?_⟩; have n0_ := Aside0.mk (Kd.R_elder' (by (with_reducible repeat (first | apply Kd.R_alloc | apply Kd.R_drewN | apply Kd.R_drew)); exact (Kd.R_mono (Kd.R_far (p := ⟨gb356, 8, none⟩) (Kd.R_far (p := ⟨gb356, 7, none⟩) (Kd.R_far (p := ⟨gb356, 6, none⟩) (Kd.R_far (p := ⟨gb356, 5, none⟩) (Kd.R_far (p := ⟨gb356, 4, none⟩) (Kd.R_far (p := ⟨gb356, 3, none⟩) (Kd.R_far (p := ⟨gb356, 2, none⟩) (Kd.R_far (p := ⟨gb356, 1, none⟩) (Kd.R_far (p := ⟨gb356, 0, none⟩) (Kd.R_types HO_2.out BK356.out (by decide)) (fun _ hk => hk.2) (.int .i64 ((rd_T29 l0 x11_1).f0))) (fun _ hk => hk.2) (.int .i64 ((rd_T29 l0 x11_1).f1))) (fun _ hk => hk.2) (.int .i64 ((rd_T29 l0 x11_1).f2))) (fun _ hk => hk.2) (.int .i64 ((rd_T29 l0 x11_1).f3))) (fun _ hk => hk.2) (.int .i64 ((rd_T29 l0 x11_1).f4))) (fun _ hk => hk.2) (.int .i64 ((rd_T29 l0 x11_1).f5))) (fun _ hk => hk.2) (.int .i64 ((rd_T29 l0 x11_1).f6))) (fun _ hk => hk.2) (.int .i64 ((rd_T29 l0 x11_1).f7))) (fun _ hk => hk.2) (.int .i64 ((rd_T29 l0 x11_1).f8))) (fun _ h_ => h_.1))) (Kd.R_base ho0) hb); have n1_ := Aside0.mk (Kd.R_lower (Kd.R_new' ho0 (Kd.R_lt (by (with_reducible repeat (first | apply Kd.R_alloc | apply Kd.R_drewN | apply Kd.R_drew)); exact (Kd.R_mono (Kd.R_far (p := ⟨gb356, 8, none⟩) (Kd.R_far (p := ⟨gb356, 7, none⟩) (Kd.R_far (p := ⟨gb356, 6, none⟩) (Kd.R_far (p := ⟨gb356, 5, none⟩) (Kd.R_far (p := ⟨gb356, 4, none⟩) (Kd.R_far (p := ⟨gb356, 3, none⟩) (Kd.R_far (p := ⟨gb356, 2, none⟩) (Kd.R_far (p := ⟨gb356, 1, none⟩) (Kd.R_far (p := ⟨gb356, 0, none⟩) (Kd.R_types HO_2.out BK356.out (by decide)) (fun _ hk => hk.2) (.int .i64 ((rd_T29 l0 x11_1).f0))) (fun _ hk => hk.2) (.int .i64 ((rd_T29 l0 x11_1).f1))) (fun _ hk => hk.2) (.int .i64 ((rd_T29 l0 x11_1).f2))) (fun _ hk => hk.2) (.int .i64 ((rd_T29 l0 x11_1).f3))) (fun _ hk => hk.2) (.int .i64 ((rd_T29 l0 x11_1).f4))) (fun _ hk => hk.2) (.int .i64 ((rd_T29 l0 x11_1).f5))) (fun _ hk => hk.2) (.int .i64 ((rd_T29 l0 x11_1).f6))) (fun _ hk => hk.2) (.int .i64 ((rd_T29 l0 x11_1).f7))) (fun _ hk => hk.2) (.int .i64 ((rd_T29 l0 x11_1).f8))) (fun _ h_ => h_.1))))) (below_size (by repeat (first | (with_reducible first | exact HB.out | apply below_alloc | apply pw_below_drewN | apply below_drew1 | refine below_set ?_ GE356.out) | exact HB.out)))); have n2_ := Aside0.mk (blk_below (g := gb356) (o := .cells #[.int .i64 ((rd_T29 l0 x11_1).f0), .int .i64 ((rd_T29 l0 x11_1).f1), .int .i64 ((rd_T29 l0 x11_1).f2), .int .i64 ((rd_T29 l0 x11_1).f3), .int .i64 ((rd_T29 l0 x11_1).f4), .int .i64 ((rd_T29 l0 x11_1).f5), .int .i64 ((rd_T29 l0 x11_1).f6), .int .i64 ((rd_T29 l0 x11_1).f7), .int .i64 ((rd_T29 l0 x11_1).f8)] 29 (0, 0)) (by (with_reducible repeat (first | refine blk_drewN ?_ _ | refine blk_drew ?_ | refine blk_alloc ?_ _)); refine blk_put (cs := #[.int .i64 ((rd_T29 l0 x11_1).f0), .int .i64 ((rd_T29 l0 x11_1).f1), .int .i64 ((rd_T29 l0 x11_1).f2), .int .i64 ((rd_T29 l0 x11_1).f3), .int .i64 ((rd_T29 l0 x11_1).f4), .int .i64 ((rd_T29 l0 x11_1).f5), .int .i64 ((rd_T29 l0 x11_1).f6), .int .i64 ((rd_T29 l0 x11_1).f7), .int .i64 0]) ?_ 8 _ rfl; (with_reducible repeat (first | refine blk_drewN ?_ _ | refine blk_drew ?_ | refine blk_alloc ?_ _)); refine blk_put (cs := #[.int .i64 ((rd_T29 l0 x11_1).f0), .int .i64 ((rd_T29 l0 x11_1).f1), .int .i64 ((rd_T29 l0 x11_1).f2), .int .i64 ((rd_T29 l0 x11_1).f3), .int .i64 ((rd_T29 l0 x11_1).f4), .int .i64 ((rd_T29 l0 x11_1).f5), .int .i64 ((rd_T29 l0 x11_1).f6), .int .i64 0, .int .i64 0]) ?_ 7 _ rfl; (with_reducible repeat (first | refine blk_drewN ?_ _ | refine blk_drew ?_ | refine blk_alloc ?_ _)); refine blk_put (cs := #[.int .i64 ((rd_T29 l0 x11_1).f0), .int .i64 ((rd_T29 l0 x11_1).f1), .int .i64 ((rd_T29 l0 x11_1).f2), .int .i64 ((rd_T29 l0 x11_1).f3), .int .i64 ((rd_T29 l0 x11_1).f4), .int .i64 ((rd_T29 l0 x11_1).f5), .int .i64 0, .int .i64 0, .int .i64 0]) ?_ 6 _ rfl; (with_reducible repeat (first | refine blk_drewN ?_ _ | refine blk_drew ?_ | refine blk_alloc ?_ _)); refine blk_put (cs := #[.int .i64 ((rd_T29 l0 x11_1).f0), .int .i64 ((rd_T29 l0 x11_1).f1), .int .i64 ((rd_T29 l0 x11_1).f2), .int .i64 ((rd_T29 l0 x11_1).f3), .int .i64 ((rd_T29 l0 x11_1).f4), .int .i64 0, .int .i64 0, .int .i64 0, .int .i64 0]) ?_ 5 _ rfl; (with_reducible repeat (first | refine blk_drewN ?_ _ | refine blk_drew ?_ | refine blk_alloc ?_ _)); refine blk_put (cs := #[.int .i64 ((rd_T29 l0 x11_1).f0), .int .i64 ((rd_T29 l0 x11_1).f1), .int .i64 ((rd_T29 l0 x11_1).f2), .int .i64 ((rd_T29 l0 x11_1).f3), .int .i64 0, .int .i64 0, .int .i64 0, .int .i64 0, .int .i64 0]) ?_ 4 _ rfl; (with_reducible repeat (first | refine blk_drewN ?_ _ | refine blk_drew ?_ | refine blk_alloc ?_ _)); refine blk_put (cs := #[.int .i64 ((rd_T29 l0 x11_1).f0), .int .i64 ((rd_T29 l0 x11_1).f1), .int .i64 ((rd_T29 l0 x11_1).f2), .int .i64 0, .int .i64 0, .int .i64 0, .int .i64 0, .int .i64 0, .int .i64 0]) ?_ 3 _ rfl; (with_reducible repeat (first | refine blk_drewN ?_ _ | refine blk_drew ?_ | refine blk_alloc ?_ _)); refine blk_put (cs := #[.int .i64 ((rd_T29 l0 x11_1).f0), .int .i64 ((rd_T29 l0 x11_1).f1), .int .i64 0, .int .i64 0, .int .i64 0, .int .i64 0, .int .i64 0, .int .i64 0, .int .i64 0]) ?_ 2 _ rfl; (with_reducible repeat (first | refine blk_drewN ?_ _ | refine blk_drew ?_ | refine blk_alloc ?_ _)); refine blk_put (cs := #[.int .i64 ((rd_T29 l0 x11_1).f0), .int .i64 0, .int .i64 0, .int .i64 0, .int .i64 0, .int .i64 0, .int .i64 0, .int .i64 0, .int .i64 0]) ?_ 1 _ rfl; (with_reducible repeat (first | refine blk_drewN ?_ _ | refine blk_drew ?_ | refine blk_alloc ?_ _)); refine blk_put (cs := #[.int .i64 0, .int .i64 0, .int .i64 0, .int .i64 0, .int .i64 0, .int .i64 0, .int .i64 0, .int .i64 0, .int .i64 0]) ?_ 0 _ rfl; (with_reducible repeat (first | refine blk_drewN ?_ _ | refine blk_drew ?_ | refine blk_alloc ?_ _)); exact BK356.out) hb); have n3_ := Aside0.mk (below_step (by repeat (first | (with_reducible first | exact HB.out | apply below_alloc | apply pw_below_drewN | apply below_drew1 | refine below_set ?_ GE356.out) | exact HB.out)) hb); clear HO_2; clear BK356; clear HB; have HO_2 := n0_; have HO359 := n1_; have BK356 := n2_; have HB := n3_; clear n0_ n1_ n2_ n3_; (try clear hb); (try clear hb2); (try clear hk); (try clear hi); (try clear ho0); obtain ⟨Ao13, co13, eo13⟩ := Kd.R_slice HO359.out; subst eo13) | ((with_reducible refine gate_callee (f := 44) rfl ?_); refine goesL_ (some 25) rfl rfl Try.func44 (by kernel_rfl) rfl #[.slice Ao13 t357.length co13] rfl (by (try simp only [List.map_toArray, List.map_cons, List.map_nil]); first | done | rfl | (simp only [List.length_drop, List.length_take]; rfl)) ?_; (with_reducible refine (frame_Put.calls _ _ t357 t361 t362 _ ?side1 ?side2 A7.out).mono ?_); (case side1 => repeat (first | exact (Kd.R_reads' HO359.out).2.2 | (with_reducible refine Kd.C_alloc ?_ _) | (with_reducible refine Kd.C_drewN ?_ _) | (with_reducible refine Kd.C_drew ?_))); (case side2 => exact (Kd.R_reads' HO359.out).2.1); rintro e w14 ⟨v363, rfl, ho0, hb⟩; refine ⟨_, rfl, ?_⟩; have n0_ := Aside0.mk (Kd.R_elder' (by (with_reducible repeat (first | apply Kd.R_alloc | apply Kd.R_drewN | apply Kd.R_drew)); exact HO_2.out) (Kd.R_base ho0) hb); have n1_ := Aside0.mk (Kd.R_elder' (by (with_reducible repeat (first | apply Kd.R_alloc | apply Kd.R_drewN | apply Kd.R_drew)); exact HO359.out) (Kd.R_base ho0) hb); have n2_ := Aside0.mk (Kd.R_lower (Kd.R_new' (Kd.R_new' ho0 (Kd.R_lt (by (with_reducible repeat (first | apply Kd.R_alloc | apply Kd.R_drewN | apply Kd.R_drew)); exact HO_2.out))) (Kd.R_lt (by (with_reducible repeat (first | apply Kd.R_alloc | apply Kd.R_drewN | apply Kd.R_drew)); exact HO359.out))) (below_size (by repeat (first | (with_reducible first | exact HB.out | apply below_alloc | apply pw_below_drewN | apply below_drew1 | refine below_set ?_ GE356.out) | exact HB.out)))); have n3_ := Aside0.mk (blk_below (g := gb356) (o := .cells #[.int .i64 ((rd_T29 l0 x11_1).f0), .int .i64 ((rd_T29 l0 x11_1).f1), .int .i64 ((rd_T29 l0 x11_1).f2), .int .i64 ((rd_T29 l0 x11_1).f3), .int .i64 ((rd_T29 l0 x11_1).f4), .int .i64 ((rd_T29 l0 x11_1).f5), .int .i64 ((rd_T29 l0 x11_1).f6), .int .i64 ((rd_T29 l0 x11_1).f7), .int .i64 ((rd_T29 l0 x11_1).f8)] 29 (0, 0)) (by (with_reducible repeat (first | refine blk_drewN ?_ _ | refine blk_drew ?_ | refine blk_alloc ?_ _)); exact BK356.out) hb); have n4_ := Aside0.mk (below_step (by repeat (first | (with_reducible first | exact HB.out | apply below_alloc | apply pw_below_drewN | apply below_drew1 | refine below_set ?_ GE356.out) | exact HB.out)) hb); clear HO_2; clear HO359; clear BK356; clear HB; have HO_2 := n0_; have HO359 := n1_; have HO364 := n2_; have BK356 := n3_; have HB := n4_; clear n0_ n1_ n2_ n3_ n4_; (try clear hb); (try clear hb2); (try clear hk); (try clear hi); (try clear ho0); obtain ⟨Ao16, co16, eo16⟩ := Kd.R_slice HO364.out; subst eo16) | ((with_reducible refine gate_builtin (b := .append) (xs := #[.tmp 31, .tmp 32]) rfl ?_); at_builtin; refine Kd.R_append_rows (Kd.int .u8) (w0 := w) w.heap.size rfl (.tmp 31) (.tmp 32) 30 5 (.int .u8 0) 1 rfl Try.underlying30 info5 rfl (by decide) (by omega) u2 x2_1 t361 _ _ _ (fun k_ => some k_ ≠ (.slice Ao13 t357.length co13 : Value).ownBlock ∧ some k_ ≠ (.slice Ao16 t361.length co16 : Value).ownBlock) (fun _ => False) rfl rfl ?aO ?aR (fun _ _ h => h) (fun _ h => h.elim) ?aF ?aB ?aS ?aL ?_; (case aR => repeat (first | exact (Kd.R_reads' HO364.out).2.2 | (with_reducible refine Kd.C_alloc ?_ _) | (with_reducible refine Kd.C_drewN ?_ _) | (with_reducible refine Kd.C_drew ?_))); (case aB => exact (by repeat (first | (with_reducible first | exact HB.out | apply below_alloc | apply pw_below_drewN | apply below_drew1 | refine below_set ?_ GE356.out) | exact HB.out))); (case aF => exact (fun k_ hk => ⟨Kd.fresh' (Kd.R_lt (by (with_reducible repeat (first | apply Kd.R_alloc | apply Kd.R_drewN | apply Kd.R_drew)); exact HO359.out)) k_ hk, Kd.fresh' (Kd.R_lt (by (with_reducible repeat (first | apply Kd.R_alloc | apply Kd.R_drewN | apply Kd.R_drew)); exact HO364.out)) k_ hk⟩)); (case aO => exact (by (with_reducible repeat (first | apply Kd.R_alloc | apply Kd.R_drewN | apply Kd.R_drew)); exact Kd.R_mono HO_2.out (fun _ hk => ⟨hk.1.2, hk.2⟩))); (case aS => exact (below_size (by repeat (first | (with_reducible first | exact HB.out | apply below_alloc | apply pw_below_drewN | apply below_drew1 | refine below_set ?_ GE356.out) | exact HB.out)))); (case aL => have := LMc9.out; omega); intro v366 w15 ho hb hg hat; rw [← Ny365.out] at ho; have n0_ := Aside0.mk (blk_grown (g := gb356) (o := .cells #[.int .i64 ((rd_T29 l0 x11_1).f0), .int .i64 ((rd_T29 l0 x11_1).f1), .int .i64 ((rd_T29 l0 x11_1).f2), .int .i64 ((rd_T29 l0 x11_1).f3), .int .i64 ((rd_T29 l0 x11_1).f4), .int .i64 ((rd_T29 l0 x11_1).f5), .int .i64 ((rd_T29 l0 x11_1).f6), .int .i64 ((rd_T29 l0 x11_1).f7), .int .i64 ((rd_T29 l0 x11_1).f8)] 29 (0, 0)) (by (with_reducible repeat (first | refine blk_drewN ?_ _ | refine blk_drew ?_ | refine blk_alloc ?_ _)); exact BK356.out) hg (Kd.R_ne HO_2.out BK356.out (by decide))); have n1_ := Aside0.mk (Kd.R_after (ok := (fun k_ => some k_ ≠ (.slice Ao16 t361.length co16 : Value).ownBlock)) (by (with_reducible repeat (first | apply Kd.R_alloc | apply Kd.R_drewN | apply Kd.R_drew)); exact Kd.R_mono HO359.out (fun _ hk => ⟨hk.2, hk.1.2⟩)) hg hat); have n2_ := Aside0.mk (Kd.R_after (ok := (fun k_ => some k_ ≠ (.slice Ao13 t357.length co13 : Value).ownBlock)) (by (with_reducible repeat (first | apply Kd.R_alloc | apply Kd.R_drewN | apply Kd.R_drew)); exact Kd.R_mono HO364.out (fun _ hk => ⟨hk.2, hk.1.2⟩)) hg hat); have n3_ := Aside0.mk (hb); have n4_ := Aside0.mk (ho); clear BK356; clear HO359; clear HO364; clear HB; clear HO_2; have BK356 := n0_; have HO359 := n1_; have HO364 := n2_; have HB := n3_; have HO367 := n4_; clear n0_ n1_ n2_ n3_ n4_; clear ho hb hg hat))
                  go_roundg k1
                  case measure => have := HK1.out; omega
                  case rel => exact ⟨(y365), (wrap64 (x11_1 + 1)), (by first | rfl | (simp; done) | (simp [*]; done)), H', ⟨by have := HK1.out; omega⟩, ⟨by (with_reducible repeat (first | apply Kd.R_alloc | apply Kd.R_drewN | apply Kd.R_drew)); exact Kd.R_mono HO367.out (fun _ hk => trivial)⟩, ⟨by repeat (first | (with_reducible first | exact HB.out | apply below_alloc | apply pw_below_drewN | apply below_drew1 | refine below_set ?_ GE356.out) | exact HB.out)⟩⟩
                · rw [if_neg c9] at H
                  exact absurd H (by simp)
              · rw [if_neg c8] at H
                have c8b0 : (t362 == 0) = false := beq_eq_false_iff_ne.mpr c8
                have c8b1 : (t362 != 0) = true := bne_iff_ne.mpr c8
                simp only [Option.some.injEq, Prod.mk.injEq] at H
                obtain ⟨rfl, rfl⟩ := H
                have p355 : 0 ≤ (x11_1 : Int) := of_decide_eq_true (by first | (with_reducible assumption) | assumption)
                have q355 : x11_1 < (l0.length : Int) := of_decide_eq_true (by first | (with_reducible assumption) | assumption)
                obtain ⟨ad355, e355, hx355_0, hx355_1, hx355_2, hx355_3, hx355_4, hx355_5, hx355_6, hx355_7, hx355_8⟩ := at_T29 HR0.out x11_1 p355 q355
                cases e355
                replace hx355_0 := (HB.out.cell (World.block_lt_of_cell? w _ hx355_0)).trans hx355_0
                replace hx355_1 := (HB.out.cell (World.block_lt_of_cell? w _ hx355_1)).trans hx355_1
                replace hx355_2 := (HB.out.cell (World.block_lt_of_cell? w _ hx355_2)).trans hx355_2
                replace hx355_3 := (HB.out.cell (World.block_lt_of_cell? w _ hx355_3)).trans hx355_3
                replace hx355_4 := (HB.out.cell (World.block_lt_of_cell? w _ hx355_4)).trans hx355_4
                replace hx355_5 := (HB.out.cell (World.block_lt_of_cell? w _ hx355_5)).trans hx355_5
                replace hx355_6 := (HB.out.cell (World.block_lt_of_cell? w _ hx355_6)).trans hx355_6
                replace hx355_7 := (HB.out.cell (World.block_lt_of_cell? w _ hx355_7)).trans hx355_7
                replace hx355_8 := (HB.out.cell (World.block_lt_of_cell? w _ hx355_8)).trans hx355_8
                replace p355 := eq_true p355
                replace q355 := eq_true q355
                go_wp2_with (first | ((with_reducible refine gate_dst (N := 5) rfl ?_); refine box_event ?hg (N := 5) ?hd (cs := #[.int .i64 0, .int .i64 0, .int .i64 0, .int .i64 0, .int .i64 0, .int .i64 0, .int .i64 0, .int .i64 0, .int .i64 0]) (t := 29) ?hr ?_; (case hd => rfl); (case hg => rfl); (case hr => first | (go_simp; done) | (go_simp; rfl)); intro gb356 hg w17 hbox hb; have n0_ := Aside0.mk (Kd.R_below (by (with_reducible repeat (first | apply Kd.R_alloc | apply Kd.R_drewN | apply Kd.R_drew)); exact HO_2.out) hb); have n1_ := Aside0.mk (below_step (by repeat (first | (with_reducible first | exact HB.out | apply below_alloc | apply pw_below_drewN | apply below_drew1) | exact HB.out)) hb); have n2_ := Aside0.mk (hbox); have n3_ := Aside0.mk ((by rw [hg]; exact (below_size (by repeat (first | (with_reducible first | exact HB.out | apply below_alloc | apply pw_below_drewN | apply below_drew1) | exact HB.out))) : w.heap.size ≤ gb356)); have n4_ := Aside0.mk ((by rw [hg]; exact (below_size (by repeat (first | (with_reducible first | exact HB.out | apply below_alloc | apply pw_below_drewN | apply below_drew1) | exact HB.out))) : w.heap.size ≤ gb356)); clear HO_2; clear HB; have HO_2 := n0_; have HB := n1_; have BK356 := n2_; have GW356 := n3_; have GE356 := n4_; clear n0_ n1_ n2_ n3_ n4_; clear hb hbox hg; have hcz18_0 : w17.cell? ⟨gb356, 0, none⟩ = some (.int .i64 0) := (blk_cell BK356.out 0).trans rfl; have hcz18_1 : w17.cell? ⟨gb356, 1, none⟩ = some (.int .i64 0) := (blk_cell BK356.out 1).trans rfl; have hcz18_2 : w17.cell? ⟨gb356, 2, none⟩ = some (.int .i64 0) := (blk_cell BK356.out 2).trans rfl; have hcz18_3 : w17.cell? ⟨gb356, 3, none⟩ = some (.int .i64 0) := (blk_cell BK356.out 3).trans rfl; have hcz18_4 : w17.cell? ⟨gb356, 4, none⟩ = some (.int .i64 0) := (blk_cell BK356.out 4).trans rfl; have hcz18_5 : w17.cell? ⟨gb356, 5, none⟩ = some (.int .i64 0) := (blk_cell BK356.out 5).trans rfl; have hcz18_6 : w17.cell? ⟨gb356, 6, none⟩ = some (.int .i64 0) := (blk_cell BK356.out 6).trans rfl; have hcz18_7 : w17.cell? ⟨gb356, 7, none⟩ = some (.int .i64 0) := (blk_cell BK356.out 7).trans rfl; have hcz18_8 : w17.cell? ⟨gb356, 8, none⟩ = some (.int .i64 0) := (blk_cell BK356.out 8).trans rfl; have hfz18_0 := blk_frozen BK356.out 0; have hfz18_1 := blk_frozen BK356.out 1; have hfz18_2 := blk_frozen BK356.out 2; have hfz18_3 := blk_frozen BK356.out 3; have hfz18_4 := blk_frozen BK356.out 4; have hfz18_5 := blk_frozen BK356.out 5; have hfz18_6 := blk_frozen BK356.out 6; have hfz18_7 := blk_frozen BK356.out 7; have hfz18_8 := blk_frozen BK356.out 8) | ((with_reducible refine gate_callee (f := 29) rfl ?_); refine goesL_ (some 17) rfl rfl Try.func29 (by kernel_rfl) rfl #[.agg #[.int .i64 ((rd_T29 l0 x11_1).f0), .int .i64 ((rd_T29 l0 x11_1).f1), .int .i64 ((rd_T29 l0 x11_1).f2), .int .i64 ((rd_T29 l0 x11_1).f3), .int .i64 ((rd_T29 l0 x11_1).f4), .int .i64 ((rd_T29 l0 x11_1).f5), .int .i64 ((rd_T29 l0 x11_1).f6), .int .i64 ((rd_T29 l0 x11_1).f7), .int .i64 ((rd_T29 l0 x11_1).f8)]] rfl (by (try simp only [List.map_toArray, List.map_cons, List.map_nil]); first | done | rfl | (simp only [List.length_drop, List.length_take]; rfl)) ?_; (with_reducible refine (message_Encode.calls ((rd_T29 l0 x11_1).f0) ((rd_T29 l0 x11_1).f1) ((rd_T29 l0 x11_1).f2) ((rd_T29 l0 x11_1).f3) ((rd_T29 l0 x11_1).f4) ((rd_T29 l0 x11_1).f5) ((rd_T29 l0 x11_1).f6) ((rd_T29 l0 x11_1).f7) ((rd_T29 l0 x11_1).f8) t357 t360 _ A5.out).mono ?_); rintro e w19 ⟨v358, rfl, ho0, hb⟩; refine ⟨_, rfl, ?_⟩; have n0_ := Aside0.mk (Kd.R_elder' (by (with_reducible repeat (first | apply Kd.R_alloc | apply Kd.R_drewN | apply Kd.R_drew)); exact (Kd.R_mono (Kd.R_far (p := ⟨gb356, 8, none⟩) (Kd.R_far (p := ⟨gb356, 7, none⟩) (Kd.R_far (p := ⟨gb356, 6, none⟩) (Kd.R_far (p := ⟨gb356, 5, none⟩) (Kd.R_far (p := ⟨gb356, 4, none⟩) (Kd.R_far (p := ⟨gb356, 3, none⟩) (Kd.R_far (p := ⟨gb356, 2, none⟩) (Kd.R_far (p := ⟨gb356, 1, none⟩) (Kd.R_far (p := ⟨gb356, 0, none⟩) (Kd.R_types HO_2.out BK356.out (by decide)) (fun _ hk => hk.2) (.int .i64 ((rd_T29 l0 x11_1).f0))) (fun _ hk => hk.2) (.int .i64 ((rd_T29 l0 x11_1).f1))) (fun _ hk => hk.2) (.int .i64 ((rd_T29 l0 x11_1).f2))) (fun _ hk => hk.2) (.int .i64 ((rd_T29 l0 x11_1).f3))) (fun _ hk => hk.2) (.int .i64 ((rd_T29 l0 x11_1).f4))) (fun _ hk => hk.2) (.int .i64 ((rd_T29 l0 x11_1).f5))) (fun _ hk => hk.2) (.int .i64 ((rd_T29 l0 x11_1).f6))) (fun _ hk => hk.2) (.int .i64 ((rd_T29 l0 x11_1).f7))) (fun _ hk => hk.2) (.int .i64 ((rd_T29 l0 x11_1).f8))) (fun _ h_ => h_.1))) (Kd.R_base ho0) hb); have n1_ := Aside0.mk (Kd.R_lower (Kd.R_new' ho0 (Kd.R_lt (by (with_reducible repeat (first | apply Kd.R_alloc | apply Kd.R_drewN | apply Kd.R_drew)); exact (Kd.R_mono (Kd.R_far (p := ⟨gb356, 8, none⟩) (Kd.R_far (p := ⟨gb356, 7, none⟩) (Kd.R_far (p := ⟨gb356, 6, none⟩) (Kd.R_far (p := ⟨gb356, 5, none⟩) (Kd.R_far (p := ⟨gb356, 4, none⟩) (Kd.R_far (p := ⟨gb356, 3, none⟩) (Kd.R_far (p := ⟨gb356, 2, none⟩) (Kd.R_far (p := ⟨gb356, 1, none⟩) (Kd.R_far (p := ⟨gb356, 0, none⟩) (Kd.R_types HO_2.out BK356.out (by decide)) (fun _ hk => hk.2) (.int .i64 ((rd_T29 l0 x11_1).f0))) (fun _ hk => hk.2) (.int .i64 ((rd_T29 l0 x11_1).f1))) (fun _ hk => hk.2) (.int .i64 ((rd_T29 l0 x11_1).f2))) (fun _ hk => hk.2) (.int .i64 ((rd_T29 l0 x11_1).f3))) (fun _ hk => hk.2) (.int .i64 ((rd_T29 l0 x11_1).f4))) (fun _ hk => hk.2) (.int .i64 ((rd_T29 l0 x11_1).f5))) (fun _ hk => hk.2) (.int .i64 ((rd_T29 l0 x11_1).f6))) (fun _ hk => hk.2) (.int .i64 ((rd_T29 l0 x11_1).f7))) (fun _ hk => hk.2) (.int .i64 ((rd_T29 l0 x11_1).f8))) (fun _ h_ => h_.1))))) (below_size (by repeat (first | (with_reducible first | exact HB.out | apply below_alloc | apply pw_below_drewN | apply below_drew1 | refine below_set ?_ GE356.out) | exact HB.out)))); have n2_ := Aside0.mk (blk_below (g := gb356) (o := .cells #[.int .i64 ((rd_T29 l0 x11_1).f0), .int .i64 ((rd_T29 l0 x11_1).f1), .int .i64 ((rd_T29 l0 x11_1).f2), .int .i64 ((rd_T29 l0 x11_1).f3), .int .i64 ((rd_T29 l0 x11_1).f4), .int .i64 ((rd_T29 l0 x11_1).f5), .int .i64 ((rd_T29 l0 x11_1).f6), .int .i64 ((rd_T29 l0 x11_1).f7), .int .i64 ((rd_T29 l0 x11_1).f8)] 29 (0, 0)) (by (with_reducible repeat (first | refine blk_drewN ?_ _ | refine blk_drew ?_ | refine blk_alloc ?_ _)); refine blk_put (cs := #[.int .i64 ((rd_T29 l0 x11_1).f0), .int .i64 ((rd_T29 l0 x11_1).f1), .int .i64 ((rd_T29 l0 x11_1).f2), .int .i64 ((rd_T29 l0 x11_1).f3), .int .i64 ((rd_T29 l0 x11_1).f4), .int .i64 ((rd_T29 l0 x11_1).f5), .int .i64 ((rd_T29 l0 x11_1).f6), .int .i64 ((rd_T29 l0 x11_1).f7), .int .i64 0]) ?_ 8 _ rfl; (with_reducible repeat (first | refine blk_drewN ?_ _ | refine blk_drew ?_ | refine blk_alloc ?_ _)); refine blk_put (cs := #[.int .i64 ((rd_T29 l0 x11_1).f0), .int .i64 ((rd_T29 l0 x11_1).f1), .int .i64 ((rd_T29 l0 x11_1).f2), .int .i64 ((rd_T29 l0 x11_1).f3), .int .i64 ((rd_T29 l0 x11_1).f4), .int .i64 ((rd_T29 l0 x11_1).f5), .int .i64 ((rd_T29 l0 x11_1).f6), .int .i64 0, .int .i64 0]) ?_ 7 _ rfl; (with_reducible repeat (first | refine blk_drewN ?_ _ | refine blk_drew ?_ | refine blk_alloc ?_ _)); refine blk_put (cs := #[.int .i64 ((rd_T29 l0 x11_1).f0), .int .i64 ((rd_T29 l0 x11_1).f1), .int .i64 ((rd_T29 l0 x11_1).f2), .int .i64 ((rd_T29 l0 x11_1).f3), .int .i64 ((rd_T29 l0 x11_1).f4), .int .i64 ((rd_T29 l0 x11_1).f5), .int .i64 0, .int .i64 0, .int .i64 0]) ?_ 6 _ rfl; (with_reducible repeat (first | refine blk_drewN ?_ _ | refine blk_drew ?_ | refine blk_alloc ?_ _)); refine blk_put (cs := #[.int .i64 ((rd_T29 l0 x11_1).f0), .int .i64 ((rd_T29 l0 x11_1).f1), .int .i64 ((rd_T29 l0 x11_1).f2), .int .i64 ((rd_T29 l0 x11_1).f3), .int .i64 ((rd_T29 l0 x11_1).f4), .int .i64 0, .int .i64 0, .int .i64 0, .int .i64 0]) ?_ 5 _ rfl; (with_reducible repeat (first | refine blk_drewN ?_ _ | refine blk_drew ?_ | refine blk_alloc ?_ _)); refine blk_put (cs := #[.int .i64 ((rd_T29 l0 x11_1).f0), .int .i64 ((rd_T29 l0 x11_1).f1), .int .i64 ((rd_T29 l0 x11_1).f2), .int .i64 ((rd_T29 l0 x11_1).f3), .int .i64 0, .int .i64 0, .int .i64 0, .int .i64 0, .int .i64 0]) ?_ 4 _ rfl; (with_reducible repeat (first | refine blk_drewN ?_ _ | refine blk_drew ?_ | refine blk_alloc ?_ _)); refine blk_put (cs := #[.int .i64 ((rd_T29 l0 x11_1).f0), .int .i64 ((rd_T29 l0 x11_1).f1), .int .i64 ((rd_T29 l0 x11_1).f2), .int .i64 0, .int .i64 0, .int .i64 0, .int .i64 0, .int .i64 0, .int .i64 0]) ?_ 3 _ rfl; (with_reducible repeat (first | refine blk_drewN ?_ _ | refine blk_drew ?_ | refine blk_alloc ?_ _)); refine blk_put (cs := #[.int .i64 ((rd_T29 l0 x11_1).f0), .int .i64 ((rd_T29 l0 x11_1).f1), .int .i64 0, .int .i64 0, .int .i64 0, .int .i64 0, .int .i64 0, .int .i64 0, .int .i64 0]) ?_ 2 _ rfl; (with_reducible repeat (first | refine blk_drewN ?_ _ | refine blk_drew ?_ | refine blk_alloc ?_ _)); refine blk_put (cs := #[.int .i64 ((rd_T29 l0 x11_1).f0), .int .i64 0, .int .i64 0, .int .i64 0, .int .i64 0, .int .i64 0, .int .i64 0, .int .i64 0, .int .i64 0]) ?_ 1 _ rfl; (with_reducible repeat (first | refine blk_drewN ?_ _ | refine blk_drew ?_ | refine blk_alloc ?_ _)); refine blk_put (cs := #[.int .i64 0, .int .i64 0, .int .i64 0, .int .i64 0, .int .i64 0, .int .i64 0, .int .i64 0, .int .i64 0, .int .i64 0]) ?_ 0 _ rfl; (with_reducible repeat (first | refine blk_drewN ?_ _ | refine blk_drew ?_ | refine blk_alloc ?_ _)); exact BK356.out) hb); have n3_ := Aside0.mk (below_step (by repeat (first | (with_reducible first | exact HB.out | apply below_alloc | apply pw_below_drewN | apply below_drew1 | refine below_set ?_ GE356.out) | exact HB.out)) hb); clear HO_2; clear BK356; clear HB; have HO_2 := n0_; have HO359 := n1_; have BK356 := n2_; have HB := n3_; clear n0_ n1_ n2_ n3_; (try clear hb); (try clear hb2); (try clear hk); (try clear hi); (try clear ho0); obtain ⟨Ao20, co20, eo20⟩ := Kd.R_slice HO359.out; subst eo20) | ((with_reducible refine gate_callee (f := 44) rfl ?_); refine goesL_ (some 25) rfl rfl Try.func44 (by kernel_rfl) rfl #[.slice Ao20 t357.length co20] rfl (by (try simp only [List.map_toArray, List.map_cons, List.map_nil]); first | done | rfl | (simp only [List.length_drop, List.length_take]; rfl)) ?_; (with_reducible refine (frame_Put.calls _ _ t357 t361 t362 _ ?side1 ?side2 A7.out).mono ?_); (case side1 => repeat (first | exact (Kd.R_reads' HO359.out).2.2 | (with_reducible refine Kd.C_alloc ?_ _) | (with_reducible refine Kd.C_drewN ?_ _) | (with_reducible refine Kd.C_drew ?_))); (case side2 => exact (Kd.R_reads' HO359.out).2.1); rintro e w21 ⟨v363, rfl, ho0, hb⟩; refine ⟨_, rfl, ?_⟩; have n0_ := Aside0.mk (Kd.R_elder' (by (with_reducible repeat (first | apply Kd.R_alloc | apply Kd.R_drewN | apply Kd.R_drew)); exact HO_2.out) (Kd.R_base ho0) hb); have n1_ := Aside0.mk (Kd.R_elder' (by (with_reducible repeat (first | apply Kd.R_alloc | apply Kd.R_drewN | apply Kd.R_drew)); exact HO359.out) (Kd.R_base ho0) hb); have n2_ := Aside0.mk (Kd.R_lower (Kd.R_new' (Kd.R_new' ho0 (Kd.R_lt (by (with_reducible repeat (first | apply Kd.R_alloc | apply Kd.R_drewN | apply Kd.R_drew)); exact HO_2.out))) (Kd.R_lt (by (with_reducible repeat (first | apply Kd.R_alloc | apply Kd.R_drewN | apply Kd.R_drew)); exact HO359.out))) (below_size (by repeat (first | (with_reducible first | exact HB.out | apply below_alloc | apply pw_below_drewN | apply below_drew1 | refine below_set ?_ GE356.out) | exact HB.out)))); have n3_ := Aside0.mk (blk_below (g := gb356) (o := .cells #[.int .i64 ((rd_T29 l0 x11_1).f0), .int .i64 ((rd_T29 l0 x11_1).f1), .int .i64 ((rd_T29 l0 x11_1).f2), .int .i64 ((rd_T29 l0 x11_1).f3), .int .i64 ((rd_T29 l0 x11_1).f4), .int .i64 ((rd_T29 l0 x11_1).f5), .int .i64 ((rd_T29 l0 x11_1).f6), .int .i64 ((rd_T29 l0 x11_1).f7), .int .i64 ((rd_T29 l0 x11_1).f8)] 29 (0, 0)) (by (with_reducible repeat (first | refine blk_drewN ?_ _ | refine blk_drew ?_ | refine blk_alloc ?_ _)); exact BK356.out) hb); have n4_ := Aside0.mk (below_step (by repeat (first | (with_reducible first | exact HB.out | apply below_alloc | apply pw_below_drewN | apply below_drew1 | refine below_set ?_ GE356.out) | exact HB.out)) hb); clear HO_2; clear HO359; clear BK356; clear HB; have HO_2 := n0_; have HO359 := n1_; have HO364 := n2_; have BK356 := n3_; have HB := n4_; clear n0_ n1_ n2_ n3_ n4_; (try clear hb); (try clear hb2); (try clear hk); (try clear hi); (try clear ho0)))
                go_ret2
                exact ⟨_, by first | rfl | (simp [errW_none, errW_some] <;> rfl) | (simp [*, errW_none, errW_some] <;> rfl), by first | exact Kd.R_nil _ _ _ _ _ | exact Kd.N_nil _ _ _ _ _ | exact Kd.V_nil _ _ _ _ _ | exact Kd.Q_nil _ _ _ _ _ | exact Kd.S_nil _ _ _ _ _, by repeat (first | (with_reducible first | exact HB.out | apply below_alloc | apply pw_below_drewN | apply below_drew1 | refine below_set ?_ GE356.out) | exact HB.out)⟩
            · rw [if_neg c6] at H
              have c6b0 : (t360 == 0) = false := beq_eq_false_iff_ne.mpr c6
              have c6b1 : (t360 != 0) = true := bne_iff_ne.mpr c6
              simp only [Option.some.injEq, Prod.mk.injEq] at H
              obtain ⟨rfl, rfl⟩ := H
              have p355 : 0 ≤ (x11_1 : Int) := of_decide_eq_true (by first | (with_reducible assumption) | assumption)
              have q355 : x11_1 < (l0.length : Int) := of_decide_eq_true (by first | (with_reducible assumption) | assumption)
              obtain ⟨ad355, e355, hx355_0, hx355_1, hx355_2, hx355_3, hx355_4, hx355_5, hx355_6, hx355_7, hx355_8⟩ := at_T29 HR0.out x11_1 p355 q355
              cases e355
              replace hx355_0 := (HB.out.cell (World.block_lt_of_cell? w _ hx355_0)).trans hx355_0
              replace hx355_1 := (HB.out.cell (World.block_lt_of_cell? w _ hx355_1)).trans hx355_1
              replace hx355_2 := (HB.out.cell (World.block_lt_of_cell? w _ hx355_2)).trans hx355_2
              replace hx355_3 := (HB.out.cell (World.block_lt_of_cell? w _ hx355_3)).trans hx355_3
              replace hx355_4 := (HB.out.cell (World.block_lt_of_cell? w _ hx355_4)).trans hx355_4
              replace hx355_5 := (HB.out.cell (World.block_lt_of_cell? w _ hx355_5)).trans hx355_5
              replace hx355_6 := (HB.out.cell (World.block_lt_of_cell? w _ hx355_6)).trans hx355_6
              replace hx355_7 := (HB.out.cell (World.block_lt_of_cell? w _ hx355_7)).trans hx355_7
              replace hx355_8 := (HB.out.cell (World.block_lt_of_cell? w _ hx355_8)).trans hx355_8
              replace p355 := eq_true p355
              replace q355 := eq_true q355
              go_wp2_with (first | ((with_reducible refine gate_dst (N := 5) rfl ?_); refine box_event ?hg (N := 5) ?hd (cs := #[.int .i64 0, .int .i64 0, .int .i64 0, .int .i64 0, .int .i64 0, .int .i64 0, .int .i64 0, .int .i64 0, .int .i64 0]) (t := 29) ?hr ?_; (case hd => rfl); (case hg => rfl); (case hr => first | (go_simp; done) | (go_simp; rfl)); intro gb356 hg w22 hbox hb; have n0_ := Aside0.mk (Kd.R_below (by (with_reducible repeat (first | apply Kd.R_alloc | apply Kd.R_drewN | apply Kd.R_drew)); exact HO_2.out) hb); have n1_ := Aside0.mk (below_step (by repeat (first | (with_reducible first | exact HB.out | apply below_alloc | apply pw_below_drewN | apply below_drew1) | exact HB.out)) hb); have n2_ := Aside0.mk (hbox); have n3_ := Aside0.mk ((by rw [hg]; exact (below_size (by repeat (first | (with_reducible first | exact HB.out | apply below_alloc | apply pw_below_drewN | apply below_drew1) | exact HB.out))) : w.heap.size ≤ gb356)); have n4_ := Aside0.mk ((by rw [hg]; exact (below_size (by repeat (first | (with_reducible first | exact HB.out | apply below_alloc | apply pw_below_drewN | apply below_drew1) | exact HB.out))) : w.heap.size ≤ gb356)); clear HO_2; clear HB; have HO_2 := n0_; have HB := n1_; have BK356 := n2_; have GW356 := n3_; have GE356 := n4_; clear n0_ n1_ n2_ n3_ n4_; clear hb hbox hg; have hcz23_0 : w22.cell? ⟨gb356, 0, none⟩ = some (.int .i64 0) := (blk_cell BK356.out 0).trans rfl; have hcz23_1 : w22.cell? ⟨gb356, 1, none⟩ = some (.int .i64 0) := (blk_cell BK356.out 1).trans rfl; have hcz23_2 : w22.cell? ⟨gb356, 2, none⟩ = some (.int .i64 0) := (blk_cell BK356.out 2).trans rfl; have hcz23_3 : w22.cell? ⟨gb356, 3, none⟩ = some (.int .i64 0) := (blk_cell BK356.out 3).trans rfl; have hcz23_4 : w22.cell? ⟨gb356, 4, none⟩ = some (.int .i64 0) := (blk_cell BK356.out 4).trans rfl; have hcz23_5 : w22.cell? ⟨gb356, 5, none⟩ = some (.int .i64 0) := (blk_cell BK356.out 5).trans rfl; have hcz23_6 : w22.cell? ⟨gb356, 6, none⟩ = some (.int .i64 0) := (blk_cell BK356.out 6).trans rfl; have hcz23_7 : w22.cell? ⟨gb356, 7, none⟩ = some (.int .i64 0) := (blk_cell BK356.out 7).trans rfl; have hcz23_8 : w22.cell? ⟨gb356, 8, none⟩ = some (.int .i64 0) := (blk_cell BK356.out 8).trans rfl; have hfz23_0 := blk_frozen BK356.out 0; have hfz23_1 := blk_frozen BK356.out 1; have hfz23_2 := blk_frozen BK356.out 2; have hfz23_3 := blk_frozen BK356.out 3; have hfz23_4 := blk_frozen BK356.out 4; have hfz23_5 := blk_frozen BK356.out 5; have hfz23_6 := blk_frozen BK356.out 6; have hfz23_7 := blk_frozen BK356.out 7; have hfz23_8 := blk_frozen BK356.out 8) | ((with_reducible refine gate_callee (f := 29) rfl ?_); refine goesL_ (some 17) rfl rfl Try.func29 (by kernel_rfl) rfl #[.agg #[.int .i64 ((rd_T29 l0 x11_1).f0), .int .i64 ((rd_T29 l0 x11_1).f1), .int .i64 ((rd_T29 l0 x11_1).f2), .int .i64 ((rd_T29 l0 x11_1).f3), .int .i64 ((rd_T29 l0 x11_1).f4), .int .i64 ((rd_T29 l0 x11_1).f5), .int .i64 ((rd_T29 l0 x11_1).f6), .int .i64 ((rd_T29 l0 x11_1).f7), .int .i64 ((rd_T29 l0 x11_1).f8)]] rfl (by (try simp only [List.map_toArray, List.map_cons, List.map_nil]); first | done | rfl | (simp only [List.length_drop, List.length_take]; rfl)) ?_; (with_reducible refine (message_Encode.calls ((rd_T29 l0 x11_1).f0) ((rd_T29 l0 x11_1).f1) ((rd_T29 l0 x11_1).f2) ((rd_T29 l0 x11_1).f3) ((rd_T29 l0 x11_1).f4) ((rd_T29 l0 x11_1).f5) ((rd_T29 l0 x11_1).f6) ((rd_T29 l0 x11_1).f7) ((rd_T29 l0 x11_1).f8) t357 t360 _ A5.out).mono ?_); rintro e w24 ⟨v358, rfl, ho0, hb⟩; refine ⟨_, rfl, ?_⟩; have n0_ := Aside0.mk (Kd.R_elder' (by (with_reducible repeat (first | apply Kd.R_alloc | apply Kd.R_drewN | apply Kd.R_drew)); exact (Kd.R_mono (Kd.R_far (p := ⟨gb356, 8, none⟩) (Kd.R_far (p := ⟨gb356, 7, none⟩) (Kd.R_far (p := ⟨gb356, 6, none⟩) (Kd.R_far (p := ⟨gb356, 5, none⟩) (Kd.R_far (p := ⟨gb356, 4, none⟩) (Kd.R_far (p := ⟨gb356, 3, none⟩) (Kd.R_far (p := ⟨gb356, 2, none⟩) (Kd.R_far (p := ⟨gb356, 1, none⟩) (Kd.R_far (p := ⟨gb356, 0, none⟩) (Kd.R_types HO_2.out BK356.out (by decide)) (fun _ hk => hk.2) (.int .i64 ((rd_T29 l0 x11_1).f0))) (fun _ hk => hk.2) (.int .i64 ((rd_T29 l0 x11_1).f1))) (fun _ hk => hk.2) (.int .i64 ((rd_T29 l0 x11_1).f2))) (fun _ hk => hk.2) (.int .i64 ((rd_T29 l0 x11_1).f3))) (fun _ hk => hk.2) (.int .i64 ((rd_T29 l0 x11_1).f4))) (fun _ hk => hk.2) (.int .i64 ((rd_T29 l0 x11_1).f5))) (fun _ hk => hk.2) (.int .i64 ((rd_T29 l0 x11_1).f6))) (fun _ hk => hk.2) (.int .i64 ((rd_T29 l0 x11_1).f7))) (fun _ hk => hk.2) (.int .i64 ((rd_T29 l0 x11_1).f8))) (fun _ h_ => h_.1))) (Kd.R_base ho0) hb); have n1_ := Aside0.mk (Kd.R_lower (Kd.R_new' ho0 (Kd.R_lt (by (with_reducible repeat (first | apply Kd.R_alloc | apply Kd.R_drewN | apply Kd.R_drew)); exact (Kd.R_mono (Kd.R_far (p := ⟨gb356, 8, none⟩) (Kd.R_far (p := ⟨gb356, 7, none⟩) (Kd.R_far (p := ⟨gb356, 6, none⟩) (Kd.R_far (p := ⟨gb356, 5, none⟩) (Kd.R_far (p := ⟨gb356, 4, none⟩) (Kd.R_far (p := ⟨gb356, 3, none⟩) (Kd.R_far (p := ⟨gb356, 2, none⟩) (Kd.R_far (p := ⟨gb356, 1, none⟩) (Kd.R_far (p := ⟨gb356, 0, none⟩) (Kd.R_types HO_2.out BK356.out (by decide)) (fun _ hk => hk.2) (.int .i64 ((rd_T29 l0 x11_1).f0))) (fun _ hk => hk.2) (.int .i64 ((rd_T29 l0 x11_1).f1))) (fun _ hk => hk.2) (.int .i64 ((rd_T29 l0 x11_1).f2))) (fun _ hk => hk.2) (.int .i64 ((rd_T29 l0 x11_1).f3))) (fun _ hk => hk.2) (.int .i64 ((rd_T29 l0 x11_1).f4))) (fun _ hk => hk.2) (.int .i64 ((rd_T29 l0 x11_1).f5))) (fun _ hk => hk.2) (.int .i64 ((rd_T29 l0 x11_1).f6))) (fun _ hk => hk.2) (.int .i64 ((rd_T29 l0 x11_1).f7))) (fun _ hk => hk.2) (.int .i64 ((rd_T29 l0 x11_1).f8))) (fun _ h_ => h_.1))))) (below_size (by repeat (first | (with_reducible first | exact HB.out | apply below_alloc | apply pw_below_drewN | apply below_drew1 | refine below_set ?_ GE356.out) | exact HB.out)))); have n2_ := Aside0.mk (blk_below (g := gb356) (o := .cells #[.int .i64 ((rd_T29 l0 x11_1).f0), .int .i64 ((rd_T29 l0 x11_1).f1), .int .i64 ((rd_T29 l0 x11_1).f2), .int .i64 ((rd_T29 l0 x11_1).f3), .int .i64 ((rd_T29 l0 x11_1).f4), .int .i64 ((rd_T29 l0 x11_1).f5), .int .i64 ((rd_T29 l0 x11_1).f6), .int .i64 ((rd_T29 l0 x11_1).f7), .int .i64 ((rd_T29 l0 x11_1).f8)] 29 (0, 0)) (by (with_reducible repeat (first | refine blk_drewN ?_ _ | refine blk_drew ?_ | refine blk_alloc ?_ _)); refine blk_put (cs := #[.int .i64 ((rd_T29 l0 x11_1).f0), .int .i64 ((rd_T29 l0 x11_1).f1), .int .i64 ((rd_T29 l0 x11_1).f2), .int .i64 ((rd_T29 l0 x11_1).f3), .int .i64 ((rd_T29 l0 x11_1).f4), .int .i64 ((rd_T29 l0 x11_1).f5), .int .i64 ((rd_T29 l0 x11_1).f6), .int .i64 ((rd_T29 l0 x11_1).f7), .int .i64 0]) ?_ 8 _ rfl; (with_reducible repeat (first | refine blk_drewN ?_ _ | refine blk_drew ?_ | refine blk_alloc ?_ _)); refine blk_put (cs := #[.int .i64 ((rd_T29 l0 x11_1).f0), .int .i64 ((rd_T29 l0 x11_1).f1), .int .i64 ((rd_T29 l0 x11_1).f2), .int .i64 ((rd_T29 l0 x11_1).f3), .int .i64 ((rd_T29 l0 x11_1).f4), .int .i64 ((rd_T29 l0 x11_1).f5), .int .i64 ((rd_T29 l0 x11_1).f6), .int .i64 0, .int .i64 0]) ?_ 7 _ rfl; (with_reducible repeat (first | refine blk_drewN ?_ _ | refine blk_drew ?_ | refine blk_alloc ?_ _)); refine blk_put (cs := #[.int .i64 ((rd_T29 l0 x11_1).f0), .int .i64 ((rd_T29 l0 x11_1).f1), .int .i64 ((rd_T29 l0 x11_1).f2), .int .i64 ((rd_T29 l0 x11_1).f3), .int .i64 ((rd_T29 l0 x11_1).f4), .int .i64 ((rd_T29 l0 x11_1).f5), .int .i64 0, .int .i64 0, .int .i64 0]) ?_ 6 _ rfl; (with_reducible repeat (first | refine blk_drewN ?_ _ | refine blk_drew ?_ | refine blk_alloc ?_ _)); refine blk_put (cs := #[.int .i64 ((rd_T29 l0 x11_1).f0), .int .i64 ((rd_T29 l0 x11_1).f1), .int .i64 ((rd_T29 l0 x11_1).f2), .int .i64 ((rd_T29 l0 x11_1).f3), .int .i64 ((rd_T29 l0 x11_1).f4), .int .i64 0, .int .i64 0, .int .i64 0, .int .i64 0]) ?_ 5 _ rfl; (with_reducible repeat (first | refine blk_drewN ?_ _ | refine blk_drew ?_ | refine blk_alloc ?_ _)); refine blk_put (cs := #[.int .i64 ((rd_T29 l0 x11_1).f0), .int .i64 ((rd_T29 l0 x11_1).f1), .int .i64 ((rd_T29 l0 x11_1).f2), .int .i64 ((rd_T29 l0 x11_1).f3), .int .i64 0, .int .i64 0, .int .i64 0, .int .i64 0, .int .i64 0]) ?_ 4 _ rfl; (with_reducible repeat (first | refine blk_drewN ?_ _ | refine blk_drew ?_ | refine blk_alloc ?_ _)); refine blk_put (cs := #[.int .i64 ((rd_T29 l0 x11_1).f0), .int .i64 ((rd_T29 l0 x11_1).f1), .int .i64 ((rd_T29 l0 x11_1).f2), .int .i64 0, .int .i64 0, .int .i64 0, .int .i64 0, .int .i64 0, .int .i64 0]) ?_ 3 _ rfl; (with_reducible repeat (first | refine blk_drewN ?_ _ | refine blk_drew ?_ | refine blk_alloc ?_ _)); refine blk_put (cs := #[.int .i64 ((rd_T29 l0 x11_1).f0), .int .i64 ((rd_T29 l0 x11_1).f1), .int .i64 0, .int .i64 0, .int .i64 0, .int .i64 0, .int .i64 0, .int .i64 0, .int .i64 0]) ?_ 2 _ rfl; (with_reducible repeat (first | refine blk_drewN ?_ _ | refine blk_drew ?_ | refine blk_alloc ?_ _)); refine blk_put (cs := #[.int .i64 ((rd_T29 l0 x11_1).f0), .int .i64 0, .int .i64 0, .int .i64 0, .int .i64 0, .int .i64 0, .int .i64 0, .int .i64 0, .int .i64 0]) ?_ 1 _ rfl; (with_reducible repeat (first | refine blk_drewN ?_ _ | refine blk_drew ?_ | refine blk_alloc ?_ _)); refine blk_put (cs := #[.int .i64 0, .int .i64 0, .int .i64 0, .int .i64 0, .int .i64 0, .int .i64 0, .int .i64 0, .int .i64 0, .int .i64 0]) ?_ 0 _ rfl; (with_reducible repeat (first | refine blk_drewN ?_ _ | refine blk_drew ?_ | refine blk_alloc ?_ _)); exact BK356.out) hb); have n3_ := Aside0.mk (below_step (by repeat (first | (with_reducible first | exact HB.out | apply below_alloc | apply pw_below_drewN | apply below_drew1 | refine below_set ?_ GE356.out) | exact HB.out)) hb); clear HO_2; clear BK356; clear HB; have HO_2 := n0_; have HO359 := n1_; have BK356 := n2_; have HB := n3_; clear n0_ n1_ n2_ n3_; (try clear hb); (try clear hb2); (try clear hk); (try clear hi); (try clear ho0)))
              go_ret2
              exact ⟨_, by first | rfl | (simp [errW_none, errW_some] <;> rfl) | (simp [*, errW_none, errW_some] <;> rfl), by first | exact Kd.R_nil _ _ _ _ _ | exact Kd.N_nil _ _ _ _ _ | exact Kd.V_nil _ _ _ _ _ | exact Kd.Q_nil _ _ _ _ _ | exact Kd.S_nil _ _ _ _ _, by repeat (first | (with_reducible first | exact HB.out | apply below_alloc | apply pw_below_drewN | apply below_drew1 | refine below_set ?_ GE356.out) | exact HB.out)⟩
          · rw [if_neg c4] at H
            exact absurd H (by simp)
        · rw [if_neg c3] at H
          exact absurd H (by simp)
      · rw [if_neg c2] at H
        have c2b0 : decide (x11_1 < (l0.length : Int)) = false := decide_eq_false c2
        clear c2
        simp only [Option.some.injEq, Prod.mk.injEq] at H
        obtain ⟨rfl, rfl⟩ := H
        go_wp2
        go_ret2
        exact ⟨_, by first | rfl | (simp [errW_none, errW_some] <;> rfl) | (simp [*, errW_none, errW_some] <;> rfl), by (with_reducible repeat (first | apply Kd.R_alloc | apply Kd.R_drewN | apply Kd.R_drew)); exact HO_2.out, by repeat (first | (with_reducible first | exact HB.out | apply below_alloc | apply pw_below_drewN | apply below_drew1) | exact HB.out)⟩

end Go.Proofs.Ytalpemoodollpaa.P
-- Printed by hookprint.py (the session's own program, over the kit's print.py): checked by Lean like any text.
namespace Go.Proofs.Ytalpemoodollpaa.P
open Go.RowKit Go.Proofs.YtalpemoodollpaaW.PrintWords Go.Proofs.YtalpemoodollpaaW.PrintLast Go.Proofs.YtalpemoodollpaaW.PrintMore
attribute [local go_sem] max2_int min2_int max_two min_two max_three min_three max_four min_four   -- for this text's walks alone
set_option linter.unusedVariables false
set_option linter.unusedSimpArgs false

attribute [local go_sem high] eqA29
/-! ### damperlaw06_MessageBack: function 24 -/
mutual
def damperlaw06_MessageBack.j0 : Nat → List (S29) → List Int → Bool → Option (Bool)
  | 0, _, _, _ => none
  | k + 1, x0, x1, x23 => if x23 = true then ((damperlaw06_alive.f).bind fun t832 => (some t832)) else (damperlaw06_MessageBack.l0 k x0 x1 0)
def damperlaw06_MessageBack.l0 : Nat → List (S29) → List Int → Int → Option (Bool)
  | 0, _, _, _ => none
  | k + 1, x0, x1, x5 => if x5 < (x0.length : Int) then (if 0 ≤ x5 then ((message_Encode.f ((rd_T29 x0 x5).f0) ((rd_T29 x0 x5).f1) ((rd_T29 x0 x5).f2) ((rd_T29 x0 x5).f3) ((rd_T29 x0 x5).f4) ((rd_T29 x0 x5).f5) ((rd_T29 x0 x5).f6) ((rd_T29 x0 x5).f7) ((rd_T29 x0 x5).f8)).bind fun bt834 => ((message_Right.f k ((rd_T29 x0 x5).f0) ((rd_T29 x0 x5).f1) ((rd_T29 x0 x5).f2) ((rd_T29 x0 x5).f3) ((rd_T29 x0 x5).f4) ((rd_T29 x0 x5).f5) ((rd_T29 x0 x5).f6) ((rd_T29 x0 x5).f7) ((rd_T29 x0 x5).f8)).bind fun t839 => (if ((bt834.2 == 0) != t839) = true then (damperlaw06_MessageBack.j2 k x0 x1 x5 bt834.2 true) else (damperlaw06_MessageBack.j2 k x0 x1 x5 bt834.2 (decide ((bt834.1.length : Int) > 64)))))) else (none)) else ((message_Stream.f k x0).bind fun bt841 => ((message_All.f bt841.1).bind fun bt845 => (if bt841.2 = 0 then (if bt845.2 = 0 then ((damperref06_Lists.f k bt845.1 x0).bind fun t849 => (damperlaw06_MessageBack.j3 k x1 (!t849))) else (damperlaw06_MessageBack.j3 k x1 true)) else (damperlaw06_MessageBack.j3 k x1 true))))
def damperlaw06_MessageBack.j2 : Nat → List (S29) → List Int → Int → Int → Bool → Option (Bool)
  | 0, _, _, _, _, _ => none
  | k + 1, x0, x1, x5, x7, x51 => if x51 = true then (some false) else (if x7 = 0 then (damperlaw06_MessageBack.l0 k x0 x1 (wrap64 (x5 + 1))) else ((damperlaw06_alive.f).bind fun t840 => (some t840)))
def damperlaw06_MessageBack.j3 : Nat → List Int → Bool → Option (Bool)
  | 0, _, _ => none
  | k + 1, x1, x76 => if x76 = true then (some false) else ((message_Decode.f x1).bind fun bt850 => (if bt850.2.2.2.2.2.2.2.2.2 = 0 then ((message_Encode.f bt850.1 bt850.2.1 bt850.2.2.1 bt850.2.2.2.1 bt850.2.2.2.2.1 bt850.2.2.2.2.2.1 bt850.2.2.2.2.2.2.1 bt850.2.2.2.2.2.2.2.1 bt850.2.2.2.2.2.2.2.2.1).bind fun bt861 => (if bt861.2 = 0 then ((damperref03_Same.f bt861.1 x1).bind fun t865 => (if t865 = true then ((damperlaw06_alive.f).bind fun t866 => (some t866)) else (some false))) else (some false))) else (if (bt850.1 == 0 && (bt850.2.1 == 0 && (bt850.2.2.1 == 0 && (bt850.2.2.2.1 == 0 && (bt850.2.2.2.2.1 == 0 && (bt850.2.2.2.2.2.1 == 0 && (bt850.2.2.2.2.2.2.1 == 0 && (bt850.2.2.2.2.2.2.2.1 == 0 && (bt850.2.2.2.2.2.2.2.2.1 == 0))))))))) = true then ((damperlaw06_alive.f).bind fun t867 => (some t867)) else (some false))))
end
def damperlaw06_MessageBack.f (k : Nat) (l0 : List (S29)) (l1 : List Int) : Option (Bool) := if (l0.length : Int) > 60 then (damperlaw06_MessageBack.j0 k l0 l1 true) else (damperlaw06_MessageBack.j0 k l0 l1 (decide ((l1.length : Int) > 200)))
theorem damperlaw06_MessageBack.mono_l : ∀ k, (∀ y0 y1 y2, LeO (damperlaw06_MessageBack.j0 k y0 y1 y2) (damperlaw06_MessageBack.j0 (k + 1) y0 y1 y2)) ∧ (∀ y0 y1 y2, LeO (damperlaw06_MessageBack.l0 k y0 y1 y2) (damperlaw06_MessageBack.l0 (k + 1) y0 y1 y2)) ∧ (∀ y0 y1 y2 y3 y4, LeO (damperlaw06_MessageBack.j2 k y0 y1 y2 y3 y4) (damperlaw06_MessageBack.j2 (k + 1) y0 y1 y2 y3 y4)) ∧ (∀ y0 y1, LeO (damperlaw06_MessageBack.j3 k y0 y1) (damperlaw06_MessageBack.j3 (k + 1) y0 y1))
  | 0 => ⟨fun _ _ _ r h => by simp [damperlaw06_MessageBack.j0] at h, fun _ _ _ r h => by simp [damperlaw06_MessageBack.l0] at h, fun _ _ _ _ _ r h => by simp [damperlaw06_MessageBack.j2] at h, fun _ _ r h => by simp [damperlaw06_MessageBack.j3] at h⟩
  | k + 1 => by
    obtain ⟨ih0, ih1, ih2, ih3⟩ := damperlaw06_MessageBack.mono_l k
    refine ⟨?_, ?_, ?_, ?_⟩
    · intro y0 y1 y2
      unfold damperlaw06_MessageBack.j0
      repeat' first
      | (with_reducible exact ih0 _ _ _)
      | (with_reducible exact ih1 _ _ _)
      | (with_reducible exact ih2 _ _ _ _ _)
      | (with_reducible exact ih3 _ _)
      | (with_reducible exact damperref06_Lists.mono _ _ _)
      | (with_reducible exact message_Right.mono _ _ _ _ _ _ _ _ _ _)
      | (with_reducible exact message_Stream.mono _ _)
      | (with_reducible exact LeO.refl _)
      | (with_reducible exact LeO.none _)
      | (with_reducible refine LeO.ite ?_ ?_)
      | (with_reducible refine LeO.bind ?_ (fun _ => ?_))
      | exact ih0 _ _ _
      | exact ih1 _ _ _
      | exact ih2 _ _ _ _ _
      | exact ih3 _ _
      | exact damperref06_Lists.mono _ _ _
      | exact message_Right.mono _ _ _ _ _ _ _ _ _ _
      | exact message_Stream.mono _ _
      | exact LeO.none _
      | refine LeO.ite ?_ ?_
      | refine LeO.bind ?_ (fun _ => ?_)
    · intro y0 y1 y2
      unfold damperlaw06_MessageBack.l0
      repeat' first
      | (with_reducible exact ih0 _ _ _)
      | (with_reducible exact ih1 _ _ _)
      | (with_reducible exact ih2 _ _ _ _ _)
      | (with_reducible exact ih3 _ _)
      | (with_reducible exact damperref06_Lists.mono _ _ _)
      | (with_reducible exact message_Right.mono _ _ _ _ _ _ _ _ _ _)
      | (with_reducible exact message_Stream.mono _ _)
      | (with_reducible exact LeO.refl _)
      | (with_reducible exact LeO.none _)
      | (with_reducible refine LeO.ite ?_ ?_)
      | (with_reducible refine LeO.bind ?_ (fun _ => ?_))
      | exact ih0 _ _ _
      | exact ih1 _ _ _
      | exact ih2 _ _ _ _ _
      | exact ih3 _ _
      | exact damperref06_Lists.mono _ _ _
      | exact message_Right.mono _ _ _ _ _ _ _ _ _ _
      | exact message_Stream.mono _ _
      | exact LeO.none _
      | refine LeO.ite ?_ ?_
      | refine LeO.bind ?_ (fun _ => ?_)
    · intro y0 y1 y2 y3 y4
      unfold damperlaw06_MessageBack.j2
      repeat' first
      | (with_reducible exact ih0 _ _ _)
      | (with_reducible exact ih1 _ _ _)
      | (with_reducible exact ih2 _ _ _ _ _)
      | (with_reducible exact ih3 _ _)
      | (with_reducible exact damperref06_Lists.mono _ _ _)
      | (with_reducible exact message_Right.mono _ _ _ _ _ _ _ _ _ _)
      | (with_reducible exact message_Stream.mono _ _)
      | (with_reducible exact LeO.refl _)
      | (with_reducible exact LeO.none _)
      | (with_reducible refine LeO.ite ?_ ?_)
      | (with_reducible refine LeO.bind ?_ (fun _ => ?_))
      | exact ih0 _ _ _
      | exact ih1 _ _ _
      | exact ih2 _ _ _ _ _
      | exact ih3 _ _
      | exact damperref06_Lists.mono _ _ _
      | exact message_Right.mono _ _ _ _ _ _ _ _ _ _
      | exact message_Stream.mono _ _
      | exact LeO.none _
      | refine LeO.ite ?_ ?_
      | refine LeO.bind ?_ (fun _ => ?_)
    · intro y0 y1
      unfold damperlaw06_MessageBack.j3
      repeat' first
      | (with_reducible exact ih0 _ _ _)
      | (with_reducible exact ih1 _ _ _)
      | (with_reducible exact ih2 _ _ _ _ _)
      | (with_reducible exact ih3 _ _)
      | (with_reducible exact damperref06_Lists.mono _ _ _)
      | (with_reducible exact message_Right.mono _ _ _ _ _ _ _ _ _ _)
      | (with_reducible exact message_Stream.mono _ _)
      | (with_reducible exact LeO.refl _)
      | (with_reducible exact LeO.none _)
      | (with_reducible refine LeO.ite ?_ ?_)
      | (with_reducible refine LeO.bind ?_ (fun _ => ?_))
      | exact ih0 _ _ _
      | exact ih1 _ _ _
      | exact ih2 _ _ _ _ _
      | exact ih3 _ _
      | exact damperref06_Lists.mono _ _ _
      | exact message_Right.mono _ _ _ _ _ _ _ _ _ _
      | exact message_Stream.mono _ _
      | exact LeO.none _
      | refine LeO.ite ?_ ?_
      | refine LeO.bind ?_ (fun _ => ?_)
theorem damperlaw06_MessageBack.mono : ∀ a0 a1 k, LeO (damperlaw06_MessageBack.f k a0 a1) (damperlaw06_MessageBack.f (k + 1) a0 a1) := by
  intro a0 a1 k
  obtain ⟨ih0, ih1, ih2, ih3⟩ := damperlaw06_MessageBack.mono_l k
  unfold damperlaw06_MessageBack.f
  repeat' first
      | (with_reducible exact ih0 _ _ _)
      | (with_reducible exact ih1 _ _ _)
      | (with_reducible exact ih2 _ _ _ _ _)
      | (with_reducible exact ih3 _ _)
      | (with_reducible exact damperref06_Lists.mono _ _ _)
      | (with_reducible exact message_Right.mono _ _ _ _ _ _ _ _ _ _)
      | (with_reducible exact message_Stream.mono _ _)
      | (with_reducible exact LeO.refl _)
      | (with_reducible exact LeO.none _)
      | (with_reducible refine LeO.ite ?_ ?_)
      | (with_reducible refine LeO.bind ?_ (fun _ => ?_))
      | exact ih0 _ _ _
      | exact ih1 _ _ _
      | exact ih2 _ _ _ _ _
      | exact ih3 _ _
      | exact damperref06_Lists.mono _ _ _
      | exact message_Right.mono _ _ _ _ _ _ _ _ _ _
      | exact message_Stream.mono _ _
      | exact LeO.none _
      | refine LeO.ite ?_ ?_
      | refine LeO.bind ?_ (fun _ => ?_)
set_option maxHeartbeats 8000000 in
set_option maxRecDepth 100000 in
theorem damperlaw06_MessageBack.calls (k : Nat) (A0 : Option Addr) (c0 : Nat) (l0 : List (S29)) (A1 : Option Addr) (c1 : Nat) (l1 : List Int) (r : Bool) (w : World) (hr0 : Kd.C k29 w A0 l0.length l0) (hc0 : l0.length ≤ c0) (hr1 : Kd.C (Kd.int .u8) w A1 l1.length l1) (hc1 : l1.length ≤ c1) (h : damperlaw06_MessageBack.f k l0 l1 = some r) :
    Calls Try.prog 24 #[.slice A0 l0.length c0, .slice A1 l1.length c1] w fun e w' => e = .returned (.bool r) ∧ Below w.heap.size w w' := by
  have hu29 := Try.underlying29
  have HR0 := Aside0.mk hr0
  have HC0 := Aside0.mk hc0
  clear hr0 hc0
  have HR1 := Aside0.mk hr1
  have HC1 := Aside0.mk hc1
  clear hr1 hc1
  have HB := Aside0.mk (Below.refl w.heap.size w)
  have H : (if (l0.length : Int) > 60 then (damperlaw06_MessageBack.j0 k l0 l1 true) else (damperlaw06_MessageBack.j0 k l0 l1 (decide ((l1.length : Int) > 200)))) = some r := h
  clear h
  have HC3 := Aside0.mk H
  clear H
  go_enter Try.func24, Try.ntmps24
  go_upto_region 1 with (fail)
  go_cut [23] (fun v23 wc => ∃ (kq : Nat) (x23_2 : Bool), v23 = .bool x23_2 ∧ Aside0 (damperlaw06_MessageBack.j0 kq l0 l1 x23_2 = some r) ∧ Aside0 (kq ≤ k) ∧ Aside0 (Below w.heap.size w wc))
  case first =>
    have H := HC3.out
    clear HC3
    by_cases c4 : (l0.length : Int) > 60
    · rw [if_pos c4] at H
      have c4b0 : decide (60 < (l0.length : Int)) = true := decide_eq_true c4
      have c4b1 : decide (60 < l0.length) = true := decide_eq_true (by omega)
      clear c4
      (first | rw [c4b0] | (simp only [i64_w, i32_w]; rw [c4b0]) | skip)
      have H' := Aside0.mk H
      clear H
      go_wp2
      go_meet
      case rel => exact ⟨_, (true), (by first | rfl | (simp; done) | (simp [*]; done)), H', ⟨by first | omega | exact Nat.le_refl _⟩, ⟨by repeat (first | (with_reducible first | exact HB.out | apply below_alloc | apply pw_below_drewN | apply below_drew1) | exact HB.out)⟩⟩
    · rw [if_neg c4] at H
      have c4b0 : decide (60 < (l0.length : Int)) = false := decide_eq_false c4
      have c4b1 : decide (60 < l0.length) = false := decide_eq_false (by omega)
      clear c4
      (first | rw [c4b0] | (simp only [i64_w, i32_w]; rw [c4b0]) | skip)
      have H' := Aside0.mk H
      clear H
      go_wp2
      go_meet
      case rel => exact ⟨_, (decide ((l1.length : Int) > 200)), (by first | rfl | (simp; done) | (simp [*]; done)), H', ⟨by first | omega | exact Nat.le_refl _⟩, ⟨by repeat (first | (with_reducible first | exact HB.out | apply below_alloc | apply pw_below_drewN | apply below_drew1) | exact HB.out)⟩⟩
  case rest =>
    clear HC3
    try clear c1
    try clear c2
    try clear p2
    try clear c4
    try clear c4b0
    try clear c4b1
    obtain ⟨kq, x23_2, rfl, HA, HJ2, HB⟩ := hcut
    cases kq with
    | zero => exact absurd HA.out (by simp [damperlaw06_MessageBack.j0])
    | succ kj2 =>
      have H := HA.out
      clear HA
      simp only [damperlaw06_MessageBack.j0] at H
      by_cases c5 : x23_2 = true
      · subst c5
        have H1 : ((damperlaw06_alive.f).bind fun t832 => (some t832)) = some r := by rw [if_pos rfl] at H; exact H
        clear H
        have H := H1
        clear H1
        replace H := Option.bind_eq_some_iff.mp H
        obtain ⟨t832, A60, H⟩ := H
        replace H : (some t832) = some r := H
        have A6 := Aside0.mk A60
        clear A60
        obtain rfl := Option.some.inj H
        go_wp2_with (first | ((with_reducible refine gate_callee (f := 35) rfl ?_); refine goesL_ (some 24) rfl rfl Try.func35 (by kernel_rfl) rfl #[] rfl (by (try simp only [List.map_toArray, List.map_cons, List.map_nil]); first | done | rfl | (simp only [List.length_drop, List.length_take]; rfl)) ?_; (with_reducible refine (damperlaw06_alive.calls  t832 _ A6.out).mono ?_); rintro e w7 ⟨rfl, hb⟩; refine ⟨_, rfl, ?_⟩; have n0_ := Aside0.mk (below_step (by repeat (first | (with_reducible first | exact HB.out | apply below_alloc | apply pw_below_drewN | apply below_drew1) | exact HB.out)) hb); clear HB; have HB := n0_; clear n0_; (try clear hb); (try clear hb2); (try clear hk); (try clear hi)))
        go_ret
        exact ⟨by first | rfl | (simp [errW_none, errW_some] <;> rfl) | (simp [*, errW_none, errW_some] <;> rfl), by repeat (first | (with_reducible first | exact HB.out | apply below_alloc | apply pw_below_drewN | apply below_drew1) | exact HB.out)⟩
      · replace c5 := Bool.eq_false_iff.mpr c5
        subst c5
        have H1 : (damperlaw06_MessageBack.l0 kj2 l0 l1 0) = some r := by rw [if_neg (show ¬ (false = true) by decide)] at H; exact H
        clear H
        have H := H1
        clear H1
        have H' := Aside0.mk H
        clear H
        go_wp2
        go_loopg [5] kj2 (fun kq v5 w' => ∃ (x5_2 : Int), v5 = .int .i64 x5_2 ∧ Aside0 (damperlaw06_MessageBack.l0 kq l0 l1 x5_2 = some r) ∧ Aside0 (kq ≤ kj2) ∧ Aside0 (Below w.heap.size w w'))
        case atStart => exact ⟨(0), (by first | rfl | (simp; done) | (simp [*]; done)), H', ⟨Nat.le_refl _⟩, ⟨by repeat (first | (with_reducible first | exact HB.out | apply below_alloc | apply pw_below_drewN | apply below_drew1) | exact HB.out)⟩⟩
        case round =>
          clear H'
          try clear c1
          try clear c2
          try clear p2
          try clear c3
          try clear c4
          try clear c4b0
          try clear c4b1
          try clear c5
          try clear p2
          obtain ⟨x5_2, rfl, HA, HK2, HB⟩ := hrel
          cases gk with
          | zero => exact absurd HA.out (by simp [damperlaw06_MessageBack.l0])
          | succ k2 =>
            have H := HA.out
            clear HA
            simp only [damperlaw06_MessageBack.l0] at H
            by_cases c8 : x5_2 < (l0.length : Int)
            · rw [if_pos c8] at H
              have c8b0 : decide (x5_2 < (l0.length : Int)) = true := decide_eq_true c8
              clear c8
              by_cases c9 : 0 ≤ x5_2
              · rw [if_pos c9] at H
                have c9b0 : decide (0 ≤ x5_2) = true := decide_eq_true c9
                clear c9
                replace H := Option.bind_eq_some_iff.mp H
                obtain ⟨⟨t834, t837⟩, A100, H⟩ := H
                replace H : ((message_Right.f k2 ((rd_T29 l0 x5_2).f0) ((rd_T29 l0 x5_2).f1) ((rd_T29 l0 x5_2).f2) ((rd_T29 l0 x5_2).f3) ((rd_T29 l0 x5_2).f4) ((rd_T29 l0 x5_2).f5) ((rd_T29 l0 x5_2).f6) ((rd_T29 l0 x5_2).f7) ((rd_T29 l0 x5_2).f8)).bind fun t839 => (if ((t837 == 0) != t839) = true then (damperlaw06_MessageBack.j2 k2 l0 l1 x5_2 t837 true) else (damperlaw06_MessageBack.j2 k2 l0 l1 x5_2 t837 (decide ((t834.length : Int) > 64))))) = some r := H
                have A10 := Aside0.mk A100
                clear A100
                have HC11 := Aside0.mk H
                clear H
                have p833 : 0 ≤ (x5_2 : Int) := of_decide_eq_true (by first | (with_reducible assumption) | assumption)
                have q833 : x5_2 < (l0.length : Int) := of_decide_eq_true (by first | (with_reducible assumption) | assumption)
                obtain ⟨ad833, e833, hx833_0, hx833_1, hx833_2, hx833_3, hx833_4, hx833_5, hx833_6, hx833_7, hx833_8⟩ := at_T29 HR0.out x5_2 p833 q833
                cases e833
                replace hx833_0 := (HB.out.cell (World.block_lt_of_cell? w _ hx833_0)).trans hx833_0
                replace hx833_1 := (HB.out.cell (World.block_lt_of_cell? w _ hx833_1)).trans hx833_1
                replace hx833_2 := (HB.out.cell (World.block_lt_of_cell? w _ hx833_2)).trans hx833_2
                replace hx833_3 := (HB.out.cell (World.block_lt_of_cell? w _ hx833_3)).trans hx833_3
                replace hx833_4 := (HB.out.cell (World.block_lt_of_cell? w _ hx833_4)).trans hx833_4
                replace hx833_5 := (HB.out.cell (World.block_lt_of_cell? w _ hx833_5)).trans hx833_5
                replace hx833_6 := (HB.out.cell (World.block_lt_of_cell? w _ hx833_6)).trans hx833_6
                replace hx833_7 := (HB.out.cell (World.block_lt_of_cell? w _ hx833_7)).trans hx833_7
                replace hx833_8 := (HB.out.cell (World.block_lt_of_cell? w _ hx833_8)).trans hx833_8
                replace p833 := eq_true p833
                replace q833 := eq_true q833
                go_upto_region 7 with (first | ((with_reducible refine gate_callee (f := 29) rfl ?_); refine goesL_ (some 36) rfl rfl Try.func29 (by kernel_rfl) rfl #[.agg #[.int .i64 ((rd_T29 l0 x5_2).f0), .int .i64 ((rd_T29 l0 x5_2).f1), .int .i64 ((rd_T29 l0 x5_2).f2), .int .i64 ((rd_T29 l0 x5_2).f3), .int .i64 ((rd_T29 l0 x5_2).f4), .int .i64 ((rd_T29 l0 x5_2).f5), .int .i64 ((rd_T29 l0 x5_2).f6), .int .i64 ((rd_T29 l0 x5_2).f7), .int .i64 ((rd_T29 l0 x5_2).f8)]] rfl (by (try simp only [List.map_toArray, List.map_cons, List.map_nil]); first | done | rfl | (simp only [List.length_drop, List.length_take]; rfl)) ?_; (with_reducible refine (message_Encode.calls ((rd_T29 l0 x5_2).f0) ((rd_T29 l0 x5_2).f1) ((rd_T29 l0 x5_2).f2) ((rd_T29 l0 x5_2).f3) ((rd_T29 l0 x5_2).f4) ((rd_T29 l0 x5_2).f5) ((rd_T29 l0 x5_2).f6) ((rd_T29 l0 x5_2).f7) ((rd_T29 l0 x5_2).f8) t834 t837 _ A10.out).mono ?_); rintro e w12 ⟨v835, rfl, ho0, hb⟩; refine ⟨_, rfl, ?_⟩; have n0_ := Aside0.mk (Kd.R_lower ho0 (below_size (by repeat (first | (with_reducible first | exact HB.out | apply below_alloc | apply pw_below_drewN | apply below_drew1) | exact HB.out)))); have n1_ := Aside0.mk (below_step (by repeat (first | (with_reducible first | exact HB.out | apply below_alloc | apply pw_below_drewN | apply below_drew1) | exact HB.out)) hb); clear HB; have HO836 := n0_; have HB := n1_; clear n0_ n1_; (try clear hb); (try clear hb2); (try clear hk); (try clear hi); (try clear ho0)))
                (try simp only [Act.put, List.setIfInBounds_toArray, List.set_cons_zero, List.set_cons_succ])
                go_cut [51] (fun v51 wc => ∃ (kq : Nat) (x51_10 : Bool), v51 = .bool x51_10 ∧ Aside0 (damperlaw06_MessageBack.j2 kq l0 l1 x5_2 t837 x51_10 = some r) ∧ Aside0 (kq ≤ k2) ∧ Aside0 (Below w.heap.size w wc))
                case first =>
                  have H := HC11.out
                  clear HC11
                  replace H := Option.bind_eq_some_iff.mp H
                  obtain ⟨t839, A130, H⟩ := H
                  replace H : (if ((t837 == 0) != t839) = true then (damperlaw06_MessageBack.j2 k2 l0 l1 x5_2 t837 true) else (damperlaw06_MessageBack.j2 k2 l0 l1 x5_2 t837 (decide ((t834.length : Int) > 64)))) = some r := H
                  have A13 := Aside0.mk A130
                  clear A130
                  by_cases c14 : ((t837 == 0) != t839) = true
                  · rw [if_pos c14] at H
                    have c14b0 : ((t837 == 0) != t839) = true := c14
                    (try (have c14b1 : decide ((t837 == 0) = t839) = false := by simpa using c14))
                    (try (have c14b2 : ((t837 == 0) == t839) = false := by simpa using c14))
                    (try (have c14b3 : ¬ ((t837 == 0) = t839) := by simpa using c14))
                    clear c14
                    (first | rw [c14b0] | (simp only [i64_w, i32_w]; rw [c14b0]) | skip)
                    have H' := Aside0.mk H
                    clear H
                    have p838 : 0 ≤ (x5_2 : Int) := of_decide_eq_true (by first | (with_reducible assumption) | assumption)
                    have q838 : x5_2 < (l0.length : Int) := of_decide_eq_true (by first | (with_reducible assumption) | assumption)
                    obtain ⟨ad838, e838, hx838_0, hx838_1, hx838_2, hx838_3, hx838_4, hx838_5, hx838_6, hx838_7, hx838_8⟩ := at_T29 HR0.out x5_2 p838 q838
                    obtain rfl : ad833 = ad838 := (by injection e838)
                    replace hx838_0 := (HB.out.cell (World.block_lt_of_cell? w _ hx838_0)).trans hx838_0
                    replace hx838_1 := (HB.out.cell (World.block_lt_of_cell? w _ hx838_1)).trans hx838_1
                    replace hx838_2 := (HB.out.cell (World.block_lt_of_cell? w _ hx838_2)).trans hx838_2
                    replace hx838_3 := (HB.out.cell (World.block_lt_of_cell? w _ hx838_3)).trans hx838_3
                    replace hx838_4 := (HB.out.cell (World.block_lt_of_cell? w _ hx838_4)).trans hx838_4
                    replace hx838_5 := (HB.out.cell (World.block_lt_of_cell? w _ hx838_5)).trans hx838_5
                    replace hx838_6 := (HB.out.cell (World.block_lt_of_cell? w _ hx838_6)).trans hx838_6
                    replace hx838_7 := (HB.out.cell (World.block_lt_of_cell? w _ hx838_7)).trans hx838_7
                    replace hx838_8 := (HB.out.cell (World.block_lt_of_cell? w _ hx838_8)).trans hx838_8
                    replace p838 := eq_true p838
                    replace q838 := eq_true q838
                    go_wp2_with (first | ((with_reducible refine gate_callee (f := 32) rfl ?_); refine goesL_ (some 45) rfl rfl Try.func32 (by kernel_rfl) rfl #[.agg #[.int .i64 ((rd_T29 l0 x5_2).f0), .int .i64 ((rd_T29 l0 x5_2).f1), .int .i64 ((rd_T29 l0 x5_2).f2), .int .i64 ((rd_T29 l0 x5_2).f3), .int .i64 ((rd_T29 l0 x5_2).f4), .int .i64 ((rd_T29 l0 x5_2).f5), .int .i64 ((rd_T29 l0 x5_2).f6), .int .i64 ((rd_T29 l0 x5_2).f7), .int .i64 ((rd_T29 l0 x5_2).f8)]] rfl (by (try simp only [List.map_toArray, List.map_cons, List.map_nil]); first | done | rfl | (simp only [List.length_drop, List.length_take]; rfl)) ?_; (with_reducible refine (message_Right.calls k2 ((rd_T29 l0 x5_2).f0) ((rd_T29 l0 x5_2).f1) ((rd_T29 l0 x5_2).f2) ((rd_T29 l0 x5_2).f3) ((rd_T29 l0 x5_2).f4) ((rd_T29 l0 x5_2).f5) ((rd_T29 l0 x5_2).f6) ((rd_T29 l0 x5_2).f7) ((rd_T29 l0 x5_2).f8) t839 _ A13.out).mono ?_); rintro e w15 ⟨rfl, hb⟩; refine ⟨_, rfl, ?_⟩; have n0_ := Aside0.mk (Kd.R_below (by (with_reducible repeat (first | apply Kd.R_alloc | apply Kd.R_drewN | apply Kd.R_drew)); exact HO836.out) hb); have n1_ := Aside0.mk (below_step (by repeat (first | (with_reducible first | exact HB.out | apply below_alloc | apply pw_below_drewN | apply below_drew1) | exact HB.out)) hb); clear HO836; clear HB; have HO836 := n0_; have HB := n1_; clear n0_ n1_; (try clear hb); (try clear hb2); (try clear hk); (try clear hi)))
                    go_meet
                    case rel => exact ⟨_, (true), (by first | rfl | (simp; done) | (simp [*]; done)), H', ⟨by have := HJ2.out; have := HK2.out; first | omega | exact Nat.le_refl _⟩, ⟨by repeat (first | (with_reducible first | exact HB.out | apply below_alloc | apply pw_below_drewN | apply below_drew1) | exact HB.out)⟩⟩
                  · rw [if_neg c14] at H
                    have c14b0 : ((t837 == 0) != t839) = false := by simpa using c14
                    (try (have c14b1 : decide ((t837 == 0) = t839) = true := by simpa using c14))
                    (try (have c14b2 : ((t837 == 0) == t839) = true := by simpa using c14))
                    clear c14
                    (first | rw [c14b0] | (simp only [i64_w, i32_w]; rw [c14b0]) | skip)
                    have H' := Aside0.mk H
                    clear H
                    have p838 : 0 ≤ (x5_2 : Int) := of_decide_eq_true (by first | (with_reducible assumption) | assumption)
                    have q838 : x5_2 < (l0.length : Int) := of_decide_eq_true (by first | (with_reducible assumption) | assumption)
                    obtain ⟨ad838, e838, hx838_0, hx838_1, hx838_2, hx838_3, hx838_4, hx838_5, hx838_6, hx838_7, hx838_8⟩ := at_T29 HR0.out x5_2 p838 q838
                    obtain rfl : ad833 = ad838 := (by injection e838)
                    replace hx838_0 := (HB.out.cell (World.block_lt_of_cell? w _ hx838_0)).trans hx838_0
                    replace hx838_1 := (HB.out.cell (World.block_lt_of_cell? w _ hx838_1)).trans hx838_1
                    replace hx838_2 := (HB.out.cell (World.block_lt_of_cell? w _ hx838_2)).trans hx838_2
                    replace hx838_3 := (HB.out.cell (World.block_lt_of_cell? w _ hx838_3)).trans hx838_3
                    replace hx838_4 := (HB.out.cell (World.block_lt_of_cell? w _ hx838_4)).trans hx838_4
                    replace hx838_5 := (HB.out.cell (World.block_lt_of_cell? w _ hx838_5)).trans hx838_5
                    replace hx838_6 := (HB.out.cell (World.block_lt_of_cell? w _ hx838_6)).trans hx838_6
                    replace hx838_7 := (HB.out.cell (World.block_lt_of_cell? w _ hx838_7)).trans hx838_7
                    replace hx838_8 := (HB.out.cell (World.block_lt_of_cell? w _ hx838_8)).trans hx838_8
                    replace p838 := eq_true p838
                    replace q838 := eq_true q838
                    go_wp2_with (first | ((with_reducible refine gate_callee (f := 32) rfl ?_); refine goesL_ (some 45) rfl rfl Try.func32 (by kernel_rfl) rfl #[.agg #[.int .i64 ((rd_T29 l0 x5_2).f0), .int .i64 ((rd_T29 l0 x5_2).f1), .int .i64 ((rd_T29 l0 x5_2).f2), .int .i64 ((rd_T29 l0 x5_2).f3), .int .i64 ((rd_T29 l0 x5_2).f4), .int .i64 ((rd_T29 l0 x5_2).f5), .int .i64 ((rd_T29 l0 x5_2).f6), .int .i64 ((rd_T29 l0 x5_2).f7), .int .i64 ((rd_T29 l0 x5_2).f8)]] rfl (by (try simp only [List.map_toArray, List.map_cons, List.map_nil]); first | done | rfl | (simp only [List.length_drop, List.length_take]; rfl)) ?_; (with_reducible refine (message_Right.calls k2 ((rd_T29 l0 x5_2).f0) ((rd_T29 l0 x5_2).f1) ((rd_T29 l0 x5_2).f2) ((rd_T29 l0 x5_2).f3) ((rd_T29 l0 x5_2).f4) ((rd_T29 l0 x5_2).f5) ((rd_T29 l0 x5_2).f6) ((rd_T29 l0 x5_2).f7) ((rd_T29 l0 x5_2).f8) t839 _ A13.out).mono ?_); rintro e w16 ⟨rfl, hb⟩; refine ⟨_, rfl, ?_⟩; have n0_ := Aside0.mk (Kd.R_below (by (with_reducible repeat (first | apply Kd.R_alloc | apply Kd.R_drewN | apply Kd.R_drew)); exact HO836.out) hb); have n1_ := Aside0.mk (below_step (by repeat (first | (with_reducible first | exact HB.out | apply below_alloc | apply pw_below_drewN | apply below_drew1) | exact HB.out)) hb); clear HO836; clear HB; have HO836 := n0_; have HB := n1_; clear n0_ n1_; (try clear hb); (try clear hb2); (try clear hk); (try clear hi); obtain ⟨Ao17, co17, eo17⟩ := Kd.R_slice HO836.out; subst eo17))
                    go_meet
                    case rel => exact ⟨_, (decide ((t834.length : Int) > 64)), (by first | rfl | (simp; done) | (simp [*]; done)), H', ⟨by have := HJ2.out; have := HK2.out; first | omega | exact Nat.le_refl _⟩, ⟨by repeat (first | (with_reducible first | exact HB.out | apply below_alloc | apply pw_below_drewN | apply below_drew1) | exact HB.out)⟩⟩
                case rest =>
                  clear HC11
                  try clear c1
                  try clear c2
                  try clear p2
                  try clear c3
                  try clear c4
                  try clear c4b0
                  try clear c4b1
                  try clear c5
                  try clear c8
                  try clear c8b0
                  try clear p8
                  try clear q8
                  try clear hx8
                  try clear c9
                  try clear c9b0
                  try clear c14
                  try clear c14b0
                  try clear c14b1
                  try clear c14b2
                  try clear hx833_0
                  try clear hx833_1
                  try clear hx833_2
                  try clear hx833_3
                  try clear hx833_4
                  try clear hx833_5
                  try clear hx833_6
                  try clear hx833_7
                  try clear hx833_8
                  try clear hx838_0
                  try clear hx838_1
                  try clear hx838_2
                  try clear hx838_3
                  try clear hx838_4
                  try clear hx838_5
                  try clear hx838_6
                  try clear hx838_7
                  try clear hx838_8
                  try clear p2
                  try clear p833
                  try clear p838
                  try clear q833
                  try clear q838
                  obtain ⟨kq, x51_10, rfl, HA, HJ10, HB⟩ := hcut
                  cases kq with
                  | zero => exact absurd HA.out (by simp [damperlaw06_MessageBack.j2])
                  | succ kj10 =>
                    have H := HA.out
                    clear HA
                    simp only [damperlaw06_MessageBack.j2] at H
                    by_cases c18 : x51_10 = true
                    · subst c18
                      have H1 : (some false) = some r := by rw [if_pos rfl] at H; exact H
                      clear H
                      have H := H1
                      clear H1
                      obtain rfl := Option.some.inj H
                      go_wp2
                      go_ret
                      exact ⟨by first | rfl | (simp [errW_none, errW_some] <;> rfl) | (simp [*, errW_none, errW_some] <;> rfl), by repeat (first | (with_reducible first | exact HB.out | apply below_alloc | apply pw_below_drewN | apply below_drew1) | exact HB.out)⟩
                    · replace c18 := Bool.eq_false_iff.mpr c18
                      subst c18
                      have H1 : (if t837 = 0 then (damperlaw06_MessageBack.l0 kj10 l0 l1 (wrap64 (x5_2 + 1))) else ((damperlaw06_alive.f).bind fun t840 => (some t840))) = some r := by rw [if_neg (show ¬ (false = true) by decide)] at H; exact H
                      clear H
                      have H := H1
                      clear H1
                      by_cases c19 : t837 = 0
                      · rw [if_pos c19] at H
                        have c19b0 : (t837 == 0) = true := beq_iff_eq.mpr c19
                        have c19b1 : (t837 != 0) = false := bne_eq_false_iff_eq.mpr c19
                        clear c19
                        have H' := Aside0.mk H
                        clear H
                        go_wp2
                        go_roundg kj10
                        case measure => have := HJ2.out; have := HK2.out; have := HJ10.out; omega
                        case rel => exact ⟨(wrap64 (x5_2 + 1)), (by first | rfl | (simp; done) | (simp [*]; done)), H', ⟨by have := HJ2.out; have := HK2.out; have := HJ10.out; omega⟩, ⟨by repeat (first | (with_reducible first | exact HB.out | apply below_alloc | apply pw_below_drewN | apply below_drew1) | exact HB.out)⟩⟩
                      · rw [if_neg c19] at H
                        have c19b0 : (t837 == 0) = false := beq_eq_false_iff_ne.mpr c19
                        have c19b1 : (t837 != 0) = true := bne_iff_ne.mpr c19
                        replace H := Option.bind_eq_some_iff.mp H
                        obtain ⟨t840, A200, H⟩ := H
                        replace H : (some t840) = some r := H
                        have A20 := Aside0.mk A200
                        clear A200
                        obtain rfl := Option.some.inj H
                        go_wp2_with (first | ((with_reducible refine gate_callee (f := 35) rfl ?_); refine goesL_ (some 54) rfl rfl Try.func35 (by kernel_rfl) rfl #[] rfl (by (try simp only [List.map_toArray, List.map_cons, List.map_nil]); first | done | rfl | (simp only [List.length_drop, List.length_take]; rfl)) ?_; (with_reducible refine (damperlaw06_alive.calls  t840 _ A20.out).mono ?_); rintro e w21 ⟨rfl, hb⟩; refine ⟨_, rfl, ?_⟩; have n0_ := Aside0.mk (below_step (by repeat (first | (with_reducible first | exact HB.out | apply below_alloc | apply pw_below_drewN | apply below_drew1) | exact HB.out)) hb); clear HB; have HB := n0_; clear n0_; (try clear hb); (try clear hb2); (try clear hk); (try clear hi)))
                        go_ret
                        exact ⟨by first | rfl | (simp [errW_none, errW_some] <;> rfl) | (simp [*, errW_none, errW_some] <;> rfl), by repeat (first | (with_reducible first | exact HB.out | apply below_alloc | apply pw_below_drewN | apply below_drew1) | exact HB.out)⟩
              · rw [if_neg c9] at H
                exact absurd H (by simp)
            · rw [if_neg c8] at H
              have c8b0 : decide (x5_2 < (l0.length : Int)) = false := decide_eq_false c8
              clear c8
              replace H := Option.bind_eq_some_iff.mp H
              obtain ⟨⟨t841, t842⟩, A220, H⟩ := H
              replace H : ((message_All.f t841).bind fun bt845 => (if t842 = 0 then (if bt845.2 = 0 then ((damperref06_Lists.f k2 bt845.1 l0).bind fun t849 => (damperlaw06_MessageBack.j3 k2 l1 (!t849))) else (damperlaw06_MessageBack.j3 k2 l1 true)) else (damperlaw06_MessageBack.j3 k2 l1 true))) = some r := H
              have A22 := Aside0.mk A220
              clear A220
              replace H := Option.bind_eq_some_iff.mp H
              obtain ⟨⟨t845, t846⟩, A230, H⟩ := H
              replace H : (if t842 = 0 then (if t846 = 0 then ((damperref06_Lists.f k2 t845 l0).bind fun t849 => (damperlaw06_MessageBack.j3 k2 l1 (!t849))) else (damperlaw06_MessageBack.j3 k2 l1 true)) else (damperlaw06_MessageBack.j3 k2 l1 true)) = some r := H
              have A23 := Aside0.mk A230
              clear A230
              have HC24 := Aside0.mk H
              clear H
              go_upto_region 13 with (first | ((with_reducible refine gate_callee (f := 92) rfl ?_); refine goesL_ (some 57) rfl rfl Try.func92 (by kernel_rfl) rfl #[.slice A0 l0.length c0] rfl (by (try simp only [List.map_toArray, List.map_cons, List.map_nil]); first | done | rfl | (simp only [List.length_drop, List.length_take]; rfl)) ?_; (with_reducible refine (message_Stream.calls k2 _ _ l0 t841 t842 _ ?side1 ?side2 A22.out).mono ?_); (case side1 => repeat (first | exact (Kd.C_below HR0.out HB.out) | (with_reducible refine Kd.C_alloc ?_ _) | (with_reducible refine Kd.C_drewN ?_ _) | (with_reducible refine Kd.C_drew ?_))); (case side2 => exact HC0.out); rintro e w25 ⟨v843, rfl, ho0, hb⟩; refine ⟨_, rfl, ?_⟩; have n0_ := Aside0.mk (Kd.R_lower ho0 (below_size (by repeat (first | (with_reducible first | exact HB.out | apply below_alloc | apply pw_below_drewN | apply below_drew1) | exact HB.out)))); have n1_ := Aside0.mk (below_step (by repeat (first | (with_reducible first | exact HB.out | apply below_alloc | apply pw_below_drewN | apply below_drew1) | exact HB.out)) hb); clear HB; have HO844 := n0_; have HB := n1_; clear n0_ n1_; (try clear hb); (try clear hb2); (try clear hk); (try clear hi); (try clear ho0); obtain ⟨Ao26, co26, eo26⟩ := Kd.R_slice HO844.out; subst eo26) | ((with_reducible refine gate_callee (f := 57) rfl ?_); refine goesL_ (some 62) rfl rfl Try.func57 (by kernel_rfl) rfl #[.slice Ao26 t841.length co26] rfl (by (try simp only [List.map_toArray, List.map_cons, List.map_nil]); first | done | rfl | (simp only [List.length_drop, List.length_take]; rfl)) ?_; (with_reducible refine (message_All.calls _ _ t841 t845 t846 _ ?side1 ?side2 A23.out).mono ?_); (case side1 => repeat (first | exact (Kd.R_reads' HO844.out).2.2 | (with_reducible refine Kd.C_alloc ?_ _) | (with_reducible refine Kd.C_drewN ?_ _) | (with_reducible refine Kd.C_drew ?_))); (case side2 => exact (Kd.R_reads' HO844.out).2.1); rintro e w27 ⟨v847, rfl, ho0, hb⟩; refine ⟨_, rfl, ?_⟩; have n0_ := Aside0.mk (Kd.R_below (by (with_reducible repeat (first | apply Kd.R_alloc | apply Kd.R_drewN | apply Kd.R_drew)); exact HO844.out) hb); have n1_ := Aside0.mk (Kd.R_lower ho0 (below_size (by repeat (first | (with_reducible first | exact HB.out | apply below_alloc | apply pw_below_drewN | apply below_drew1) | exact HB.out)))); have n2_ := Aside0.mk (below_step (by repeat (first | (with_reducible first | exact HB.out | apply below_alloc | apply pw_below_drewN | apply below_drew1) | exact HB.out)) hb); clear HO844; clear HB; have HO844 := n0_; have HO848 := n1_; have HB := n2_; clear n0_ n1_ n2_; (try clear hb); (try clear hb2); (try clear hk); (try clear hi); (try clear ho0)))
              (try simp only [Act.put, List.setIfInBounds_toArray, List.set_cons_zero, List.set_cons_succ])
              go_cut [76] (fun v76 wc => ∃ (kq : Nat) (x76_23 : Bool), v76 = .bool x76_23 ∧ Aside0 (damperlaw06_MessageBack.j3 kq l1 x76_23 = some r) ∧ Aside0 (kq ≤ k2) ∧ Aside0 (Below w.heap.size w wc))
              case first =>
                have H := HC24.out
                clear HC24
                by_cases c28 : t842 = 0
                · rw [if_pos c28] at H
                  have c28b0 : (t842 == 0) = true := beq_iff_eq.mpr c28
                  have c28b1 : (t842 != 0) = false := bne_eq_false_iff_eq.mpr c28
                  clear c28
                  (first | rw [c28b0] | (simp only [i64_w, i32_w]; rw [c28b0]) | skip)
                  by_cases c29 : t846 = 0
                  · rw [if_pos c29] at H
                    have c29b0 : (t846 == 0) = true := beq_iff_eq.mpr c29
                    have c29b1 : (t846 != 0) = false := bne_eq_false_iff_eq.mpr c29
                    clear c29
                    replace H := Option.bind_eq_some_iff.mp H
                    obtain ⟨t849, A300, H⟩ := H
                    replace H : (damperlaw06_MessageBack.j3 k2 l1 (!t849)) = some r := H
                    have A30 := Aside0.mk A300
                    clear A300
                    have H' := Aside0.mk H
                    clear H
                    obtain ⟨Ao31, co31, eo31⟩ := Kd.R_slice HO848.out
                    subst eo31
                    go_wp2_with (first | (go_at_call 59; (with_reducible refine (damperref06_Lists.calls k2 _ _ t845 _ _ l0 t849 _ ?side1 ?side2 ?side3 ?side4 A30.out).mono ?_); (case side1 => repeat (first | exact (Kd.R_reads' HO848.out).2.2 | (with_reducible refine Kd.C_alloc ?_ _) | (with_reducible refine Kd.C_drewN ?_ _) | (with_reducible refine Kd.C_drew ?_))); (case side2 => exact (Kd.R_reads' HO848.out).2.1); (case side3 => repeat (first | exact (Kd.C_below HR0.out HB.out) | (with_reducible refine Kd.C_alloc ?_ _) | (with_reducible refine Kd.C_drewN ?_ _) | (with_reducible refine Kd.C_drew ?_))); (case side4 => exact HC0.out); rintro e w' ⟨rfl, ⟨nd, rfl⟩⟩))
                    go_meet
                    case rel => exact ⟨_, (!t849), (by first | rfl | (simp; done) | (simp [*]; done)), H', ⟨by have := HJ2.out; have := HK2.out; first | omega | exact Nat.le_refl _⟩, ⟨by repeat (first | (with_reducible first | exact HB.out | apply below_alloc | apply pw_below_drewN | apply below_drew1) | exact HB.out)⟩⟩
                  · rw [if_neg c29] at H
                    have c29b0 : (t846 == 0) = false := beq_eq_false_iff_ne.mpr c29
                    have c29b1 : (t846 != 0) = true := bne_iff_ne.mpr c29
                    have H' := Aside0.mk H
                    clear H
                    go_wp2
                    go_meet
                    case rel => exact ⟨_, (true), (by first | rfl | (simp; done) | (simp [*]; done)), H', ⟨by have := HJ2.out; have := HK2.out; first | omega | exact Nat.le_refl _⟩, ⟨by repeat (first | (with_reducible first | exact HB.out | apply below_alloc | apply pw_below_drewN | apply below_drew1) | exact HB.out)⟩⟩
                · rw [if_neg c28] at H
                  have c28b0 : (t842 == 0) = false := beq_eq_false_iff_ne.mpr c28
                  have c28b1 : (t842 != 0) = true := bne_iff_ne.mpr c28
                  (first | rw [c28b0] | (simp only [i64_w, i32_w]; rw [c28b0]) | skip)
                  have H' := Aside0.mk H
                  clear H
                  go_wp2
                  go_meet
                  case rel => exact ⟨_, (true), (by first | rfl | (simp; done) | (simp [*]; done)), H', ⟨by have := HJ2.out; have := HK2.out; first | omega | exact Nat.le_refl _⟩, ⟨by repeat (first | (with_reducible first | exact HB.out | apply below_alloc | apply pw_below_drewN | apply below_drew1) | exact HB.out)⟩⟩
              case rest =>
                clear HC24
                try clear c1
                try clear c2
                try clear p2
                try clear c3
                try clear c4
                try clear c4b0
                try clear c4b1
                try clear c5
                try clear p6
                try clear c8
                try clear c8b0
                try clear p8
                try clear q8
                try clear hx8
                try clear c9
                try clear c9b0
                try clear c14
                try clear c14b0
                try clear c14b1
                try clear c14b2
                try clear c18
                try clear c19
                try clear c19b0
                try clear c19b1
                try clear c24
                try clear c28
                try clear c28b0
                try clear c28b1
                try clear c29
                try clear c29b0
                try clear c29b1
                try clear hx833_0
                try clear hx833_1
                try clear hx833_2
                try clear hx833_3
                try clear hx833_4
                try clear hx833_5
                try clear hx833_6
                try clear hx833_7
                try clear hx833_8
                try clear hx838_0
                try clear hx838_1
                try clear hx838_2
                try clear hx838_3
                try clear hx838_4
                try clear hx838_5
                try clear hx838_6
                try clear hx838_7
                try clear hx838_8
                try clear p2
                try clear p8
                try clear p833
                try clear p838
                try clear q8
                try clear q833
                try clear q838
                obtain ⟨kq, x76_23, rfl, HA, HJ23, HB⟩ := hcut
                cases kq with
                | zero => exact absurd HA.out (by simp [damperlaw06_MessageBack.j3])
                | succ kj23 =>
                  have H := HA.out
                  clear HA
                  simp only [damperlaw06_MessageBack.j3] at H
                  by_cases c32 : x76_23 = true
                  · subst c32
                    have H1 : (some false) = some r := by rw [if_pos rfl] at H; exact H
                    clear H
                    have H := H1
                    clear H1
                    obtain rfl := Option.some.inj H
                    go_wp2
                    go_ret
                    exact ⟨by first | rfl | (simp [errW_none, errW_some] <;> rfl) | (simp [*, errW_none, errW_some] <;> rfl), by repeat (first | (with_reducible first | exact HB.out | apply below_alloc | apply pw_below_drewN | apply below_drew1) | exact HB.out)⟩
                  · replace c32 := Bool.eq_false_iff.mpr c32
                    subst c32
                    have H1 : ((message_Decode.f l1).bind fun bt850 => (if bt850.2.2.2.2.2.2.2.2.2 = 0 then ((message_Encode.f bt850.1 bt850.2.1 bt850.2.2.1 bt850.2.2.2.1 bt850.2.2.2.2.1 bt850.2.2.2.2.2.1 bt850.2.2.2.2.2.2.1 bt850.2.2.2.2.2.2.2.1 bt850.2.2.2.2.2.2.2.2.1).bind fun bt861 => (if bt861.2 = 0 then ((damperref03_Same.f bt861.1 l1).bind fun t865 => (if t865 = true then ((damperlaw06_alive.f).bind fun t866 => (some t866)) else (some false))) else (some false))) else (if (bt850.1 == 0 && (bt850.2.1 == 0 && (bt850.2.2.1 == 0 && (bt850.2.2.2.1 == 0 && (bt850.2.2.2.2.1 == 0 && (bt850.2.2.2.2.2.1 == 0 && (bt850.2.2.2.2.2.2.1 == 0 && (bt850.2.2.2.2.2.2.2.1 == 0 && (bt850.2.2.2.2.2.2.2.2.1 == 0))))))))) = true then ((damperlaw06_alive.f).bind fun t867 => (some t867)) else (some false)))) = some r := by rw [if_neg (show ¬ (false = true) by decide)] at H; exact H
                    clear H
                    have H := H1
                    clear H1
                    replace H := Option.bind_eq_some_iff.mp H
                    obtain ⟨⟨t850, t851, t852, t853, t854, t855, t856, t857, t858, t859⟩, A330, H⟩ := H
                    replace H : (if t859 = 0 then ((message_Encode.f t850 t851 t852 t853 t854 t855 t856 t857 t858).bind fun bt861 => (if bt861.2 = 0 then ((damperref03_Same.f bt861.1 l1).bind fun t865 => (if t865 = true then ((damperlaw06_alive.f).bind fun t866 => (some t866)) else (some false))) else (some false))) else (if (t850 == 0 && (t851 == 0 && (t852 == 0 && (t853 == 0 && (t854 == 0 && (t855 == 0 && (t856 == 0 && (t857 == 0 && (t858 == 0))))))))) = true then ((damperlaw06_alive.f).bind fun t867 => (some t867)) else (some false))) = some r := H
                    have A33 := Aside0.mk A330
                    clear A330
                    by_cases c34 : t859 = 0
                    · rw [if_pos c34] at H
                      have c34b0 : (t859 == 0) = true := beq_iff_eq.mpr c34
                      have c34b1 : (t859 != 0) = false := bne_eq_false_iff_eq.mpr c34
                      clear c34
                      replace H := Option.bind_eq_some_iff.mp H
                      obtain ⟨⟨t861, t864⟩, A350, H⟩ := H
                      replace H : (if t864 = 0 then ((damperref03_Same.f t861 l1).bind fun t865 => (if t865 = true then ((damperlaw06_alive.f).bind fun t866 => (some t866)) else (some false))) else (some false)) = some r := H
                      have A35 := Aside0.mk A350
                      clear A350
                      by_cases c36 : t864 = 0
                      · rw [if_pos c36] at H
                        have c36b0 : (t864 == 0) = true := beq_iff_eq.mpr c36
                        have c36b1 : (t864 != 0) = false := bne_eq_false_iff_eq.mpr c36
                        clear c36
                        replace H := Option.bind_eq_some_iff.mp H
                        obtain ⟨t865, A370, H⟩ := H
                        replace H : (if t865 = true then ((damperlaw06_alive.f).bind fun t866 => (some t866)) else (some false)) = some r := H
                        have A37 := Aside0.mk A370
                        clear A370
                        by_cases c38 : t865 = true
                        · subst c38
                          have H1 : ((damperlaw06_alive.f).bind fun t866 => (some t866)) = some r := by rw [if_pos rfl] at H; exact H
                          clear H
                          have H := H1
                          clear H1
                          replace H := Option.bind_eq_some_iff.mp H
                          obtain ⟨t866, A390, H⟩ := H
                          replace H : (some t866) = some r := H
                          have A39 := Aside0.mk A390
                          clear A390
                          obtain rfl := Option.some.inj H
                          go_wp2_with (first | ((with_reducible refine gate_callee (f := 80) rfl ?_); refine goesL_ (some 79) rfl rfl Try.func80 (by kernel_rfl) rfl #[.slice A1 l1.length c1] rfl (by (try simp only [List.map_toArray, List.map_cons, List.map_nil]); first | done | rfl | (simp only [List.length_drop, List.length_take]; rfl)) ?_; (with_reducible refine (message_Decode.calls _ _ l1 t850 t851 t852 t853 t854 t855 t856 t857 t858 t859 _ ?side1 ?side2 A33.out).mono ?_); (case side1 => repeat (first | exact (Kd.C_below HR1.out HB.out) | (with_reducible refine Kd.C_alloc ?_ _) | (with_reducible refine Kd.C_drewN ?_ _) | (with_reducible refine Kd.C_drew ?_))); (case side2 => exact HC1.out); rintro e w40 ⟨rfl, hb⟩; refine ⟨_, rfl, ?_⟩; have n0_ := Aside0.mk (below_step (by repeat (first | (with_reducible first | exact HB.out | apply below_alloc | apply pw_below_drewN | apply below_drew1) | exact HB.out)) hb); clear HB; have HB := n0_; clear n0_; (try clear hb); (try clear hb2); (try clear hk); (try clear hi)) | ((with_reducible refine gate_dst (N := 12) rfl ?_); (try (refine gate_guard (by rfl) ?_; dsimp only)); refine box_event ?hg (N := 12) ?hd (cs := #[.int .i64 0, .int .i64 0, .int .i64 0, .int .i64 0, .int .i64 0, .int .i64 0, .int .i64 0, .int .i64 0, .int .i64 0]) (t := 29) ?hr ?_; (case hd => rfl); (case hg => rfl); (case hr => first | (go_simp; done) | (go_simp; rfl)); intro gb860 hg w41 hbox hb; have n0_ := Aside0.mk (below_step (by repeat (first | (with_reducible first | exact HB.out | apply below_alloc | apply pw_below_drewN | apply below_drew1) | exact HB.out)) hb); have n1_ := Aside0.mk (hbox); have n2_ := Aside0.mk ((by rw [hg]; exact (below_size (by repeat (first | (with_reducible first | exact HB.out | apply below_alloc | apply pw_below_drewN | apply below_drew1) | exact HB.out))) : w.heap.size ≤ gb860)); have n3_ := Aside0.mk ((by rw [hg]; exact (below_size (by repeat (first | (with_reducible first | exact HB.out | apply below_alloc | apply pw_below_drewN | apply below_drew1) | exact HB.out))) : w.heap.size ≤ gb860)); clear HB; have HB := n0_; have BK860 := n1_; have GW860 := n2_; have GE860 := n3_; clear n0_ n1_ n2_ n3_; clear hb hbox hg; have hcz42_0 : w41.cell? ⟨gb860, 0, none⟩ = some (.int .i64 0) := (blk_cell BK860.out 0).trans rfl; have hcz42_1 : w41.cell? ⟨gb860, 1, none⟩ = some (.int .i64 0) := (blk_cell BK860.out 1).trans rfl; have hcz42_2 : w41.cell? ⟨gb860, 2, none⟩ = some (.int .i64 0) := (blk_cell BK860.out 2).trans rfl; have hcz42_3 : w41.cell? ⟨gb860, 3, none⟩ = some (.int .i64 0) := (blk_cell BK860.out 3).trans rfl; have hcz42_4 : w41.cell? ⟨gb860, 4, none⟩ = some (.int .i64 0) := (blk_cell BK860.out 4).trans rfl; have hcz42_5 : w41.cell? ⟨gb860, 5, none⟩ = some (.int .i64 0) := (blk_cell BK860.out 5).trans rfl; have hcz42_6 : w41.cell? ⟨gb860, 6, none⟩ = some (.int .i64 0) := (blk_cell BK860.out 6).trans rfl; have hcz42_7 : w41.cell? ⟨gb860, 7, none⟩ = some (.int .i64 0) := (blk_cell BK860.out 7).trans rfl; have hcz42_8 : w41.cell? ⟨gb860, 8, none⟩ = some (.int .i64 0) := (blk_cell BK860.out 8).trans rfl; have hfz42_0 := blk_frozen BK860.out 0; have hfz42_1 := blk_frozen BK860.out 1; have hfz42_2 := blk_frozen BK860.out 2; have hfz42_3 := blk_frozen BK860.out 3; have hfz42_4 := blk_frozen BK860.out 4; have hfz42_5 := blk_frozen BK860.out 5; have hfz42_6 := blk_frozen BK860.out 6; have hfz42_7 := blk_frozen BK860.out 7; have hfz42_8 := blk_frozen BK860.out 8) | ((with_reducible refine gate_callee (f := 29) rfl ?_); refine goesL_ (some 92) rfl rfl Try.func29 (by kernel_rfl) rfl #[.agg #[.int .i64 t850, .int .i64 t851, .int .i64 t852, .int .i64 t853, .int .i64 t854, .int .i64 t855, .int .i64 t856, .int .i64 t857, .int .i64 t858]] rfl (by (try simp only [List.map_toArray, List.map_cons, List.map_nil]); first | done | rfl | (simp only [List.length_drop, List.length_take]; rfl)) ?_; (with_reducible refine (message_Encode.calls t850 t851 t852 t853 t854 t855 t856 t857 t858 t861 t864 _ A35.out).mono ?_); rintro e w43 ⟨v862, rfl, ho0, hb⟩; refine ⟨_, rfl, ?_⟩; have n0_ := Aside0.mk (Kd.R_lower ho0 (below_size (by repeat (first | (with_reducible first | exact HB.out | apply below_alloc | apply pw_below_drewN | apply below_drew1 | refine below_set ?_ GE860.out) | exact HB.out)))); have n1_ := Aside0.mk (blk_below (g := gb860) (o := .cells #[.int .i64 t850, .int .i64 t851, .int .i64 t852, .int .i64 t853, .int .i64 t854, .int .i64 t855, .int .i64 t856, .int .i64 t857, .int .i64 t858] 29 (0, 0)) (by (with_reducible repeat (first | refine blk_drewN ?_ _ | refine blk_drew ?_ | refine blk_alloc ?_ _)); refine blk_put (cs := #[.int .i64 t850, .int .i64 t851, .int .i64 t852, .int .i64 t853, .int .i64 t854, .int .i64 t855, .int .i64 t856, .int .i64 t857, .int .i64 0]) ?_ 8 _ rfl; (with_reducible repeat (first | refine blk_drewN ?_ _ | refine blk_drew ?_ | refine blk_alloc ?_ _)); refine blk_put (cs := #[.int .i64 t850, .int .i64 t851, .int .i64 t852, .int .i64 t853, .int .i64 t854, .int .i64 t855, .int .i64 t856, .int .i64 0, .int .i64 0]) ?_ 7 _ rfl; (with_reducible repeat (first | refine blk_drewN ?_ _ | refine blk_drew ?_ | refine blk_alloc ?_ _)); refine blk_put (cs := #[.int .i64 t850, .int .i64 t851, .int .i64 t852, .int .i64 t853, .int .i64 t854, .int .i64 t855, .int .i64 0, .int .i64 0, .int .i64 0]) ?_ 6 _ rfl; (with_reducible repeat (first | refine blk_drewN ?_ _ | refine blk_drew ?_ | refine blk_alloc ?_ _)); refine blk_put (cs := #[.int .i64 t850, .int .i64 t851, .int .i64 t852, .int .i64 t853, .int .i64 t854, .int .i64 0, .int .i64 0, .int .i64 0, .int .i64 0]) ?_ 5 _ rfl; (with_reducible repeat (first | refine blk_drewN ?_ _ | refine blk_drew ?_ | refine blk_alloc ?_ _)); refine blk_put (cs := #[.int .i64 t850, .int .i64 t851, .int .i64 t852, .int .i64 t853, .int .i64 0, .int .i64 0, .int .i64 0, .int .i64 0, .int .i64 0]) ?_ 4 _ rfl; (with_reducible repeat (first | refine blk_drewN ?_ _ | refine blk_drew ?_ | refine blk_alloc ?_ _)); refine blk_put (cs := #[.int .i64 t850, .int .i64 t851, .int .i64 t852, .int .i64 0, .int .i64 0, .int .i64 0, .int .i64 0, .int .i64 0, .int .i64 0]) ?_ 3 _ rfl; (with_reducible repeat (first | refine blk_drewN ?_ _ | refine blk_drew ?_ | refine blk_alloc ?_ _)); refine blk_put (cs := #[.int .i64 t850, .int .i64 t851, .int .i64 0, .int .i64 0, .int .i64 0, .int .i64 0, .int .i64 0, .int .i64 0, .int .i64 0]) ?_ 2 _ rfl; (with_reducible repeat (first | refine blk_drewN ?_ _ | refine blk_drew ?_ | refine blk_alloc ?_ _)); refine blk_put (cs := #[.int .i64 t850, .int .i64 0, .int .i64 0, .int .i64 0, .int .i64 0, .int .i64 0, .int .i64 0, .int .i64 0, .int .i64 0]) ?_ 1 _ rfl; (with_reducible repeat (first | refine blk_drewN ?_ _ | refine blk_drew ?_ | refine blk_alloc ?_ _)); refine blk_put (cs := #[.int .i64 0, .int .i64 0, .int .i64 0, .int .i64 0, .int .i64 0, .int .i64 0, .int .i64 0, .int .i64 0, .int .i64 0]) ?_ 0 _ rfl; (with_reducible repeat (first | refine blk_drewN ?_ _ | refine blk_drew ?_ | refine blk_alloc ?_ _)); exact BK860.out) hb); have n2_ := Aside0.mk (below_step (by repeat (first | (with_reducible first | exact HB.out | apply below_alloc | apply pw_below_drewN | apply below_drew1 | refine below_set ?_ GE860.out) | exact HB.out)) hb); clear BK860; clear HB; have HO863 := n0_; have BK860 := n1_; have HB := n2_; clear n0_ n1_ n2_; (try clear hb); (try clear hb2); (try clear hk); (try clear hi); (try clear ho0); obtain ⟨Ao44, co44, eo44⟩ := Kd.R_slice HO863.out; subst eo44) | (go_at_call 31; (with_reducible refine (damperref03_Same.calls _ _ t861 _ _ l1 true _ ?side1 ?side2 ?side3 ?side4 A37.out).mono ?_); (case side1 => repeat (first | exact (Kd.R_reads' HO863.out).2.2 | (with_reducible refine Kd.C_alloc ?_ _) | (with_reducible refine Kd.C_drewN ?_ _) | (with_reducible refine Kd.C_drew ?_))); (case side2 => exact (Kd.R_reads' HO863.out).2.1); (case side3 => repeat (first | exact (Kd.C_below HR1.out HB.out) | (with_reducible refine Kd.C_alloc ?_ _) | (with_reducible refine Kd.C_drewN ?_ _) | (with_reducible refine Kd.C_drew ?_))); (case side4 => exact HC1.out); rintro e w' ⟨rfl, ⟨nd, rfl⟩⟩) | (go_at_call 35; (with_reducible refine (damperlaw06_alive.calls  t866 _ A39.out).mono ?_); rintro e w45 ⟨rfl, hb⟩; have n0_ := Aside0.mk (Kd.R_below (by (with_reducible repeat (first | apply Kd.R_alloc | apply Kd.R_drewN | apply Kd.R_drew)); exact HO863.out) hb); have n1_ := Aside0.mk (blk_below (g := gb860) (o := .cells #[.int .i64 t850, .int .i64 t851, .int .i64 t852, .int .i64 t853, .int .i64 t854, .int .i64 t855, .int .i64 t856, .int .i64 t857, .int .i64 t858] 29 (0, 0)) (by (with_reducible repeat (first | refine blk_drewN ?_ _ | refine blk_drew ?_ | refine blk_alloc ?_ _)); exact BK860.out) hb); have n2_ := Aside0.mk (below_step (by repeat (first | (with_reducible first | exact HB.out | apply below_alloc | apply pw_below_drewN | apply below_drew1 | refine below_set ?_ GE860.out) | exact HB.out)) hb); clear HO863; clear BK860; clear HB; have HO863 := n0_; have BK860 := n1_; have HB := n2_; clear n0_ n1_ n2_; (try clear hb); (try clear hb2); (try clear hk); (try clear hi)))
                          go_ret
                          exact ⟨by first | rfl | (simp [errW_none, errW_some] <;> rfl) | (simp [*, errW_none, errW_some] <;> rfl), by repeat (first | (with_reducible first | exact HB.out | apply below_alloc | apply pw_below_drewN | apply below_drew1 | refine below_set ?_ GE860.out) | exact HB.out)⟩
                        · replace c38 := Bool.eq_false_iff.mpr c38
                          subst c38
                          have H1 : (some false) = some r := by rw [if_neg (show ¬ (false = true) by decide)] at H; exact H
                          clear H
                          have H := H1
                          clear H1
                          obtain rfl := Option.some.inj H
                          go_wp2_with (first | ((with_reducible refine gate_callee (f := 80) rfl ?_); refine goesL_ (some 79) rfl rfl Try.func80 (by kernel_rfl) rfl #[.slice A1 l1.length c1] rfl (by (try simp only [List.map_toArray, List.map_cons, List.map_nil]); first | done | rfl | (simp only [List.length_drop, List.length_take]; rfl)) ?_; (with_reducible refine (message_Decode.calls _ _ l1 t850 t851 t852 t853 t854 t855 t856 t857 t858 t859 _ ?side1 ?side2 A33.out).mono ?_); (case side1 => repeat (first | exact (Kd.C_below HR1.out HB.out) | (with_reducible refine Kd.C_alloc ?_ _) | (with_reducible refine Kd.C_drewN ?_ _) | (with_reducible refine Kd.C_drew ?_))); (case side2 => exact HC1.out); rintro e w46 ⟨rfl, hb⟩; refine ⟨_, rfl, ?_⟩; have n0_ := Aside0.mk (below_step (by repeat (first | (with_reducible first | exact HB.out | apply below_alloc | apply pw_below_drewN | apply below_drew1) | exact HB.out)) hb); clear HB; have HB := n0_; clear n0_; (try clear hb); (try clear hb2); (try clear hk); (try clear hi)) | ((with_reducible refine gate_dst (N := 12) rfl ?_); (try (refine gate_guard (by rfl) ?_; dsimp only)); refine box_event ?hg (N := 12) ?hd (cs := #[.int .i64 0, .int .i64 0, .int .i64 0, .int .i64 0, .int .i64 0, .int .i64 0, .int .i64 0, .int .i64 0, .int .i64 0]) (t := 29) ?hr ?_; (case hd => rfl); (case hg => rfl); (case hr => first | (go_simp; done) | (go_simp; rfl)); intro gb860 hg w47 hbox hb; have n0_ := Aside0.mk (below_step (by repeat (first | (with_reducible first | exact HB.out | apply below_alloc | apply pw_below_drewN | apply below_drew1) | exact HB.out)) hb); have n1_ := Aside0.mk (hbox); have n2_ := Aside0.mk ((by rw [hg]; exact (below_size (by repeat (first | (with_reducible first | exact HB.out | apply below_alloc | apply pw_below_drewN | apply below_drew1) | exact HB.out))) : w.heap.size ≤ gb860)); have n3_ := Aside0.mk ((by rw [hg]; exact (below_size (by repeat (first | (with_reducible first | exact HB.out | apply below_alloc | apply pw_below_drewN | apply below_drew1) | exact HB.out))) : w.heap.size ≤ gb860)); clear HB; have HB := n0_; have BK860 := n1_; have GW860 := n2_; have GE860 := n3_; clear n0_ n1_ n2_ n3_; clear hb hbox hg; have hcz48_0 : w47.cell? ⟨gb860, 0, none⟩ = some (.int .i64 0) := (blk_cell BK860.out 0).trans rfl; have hcz48_1 : w47.cell? ⟨gb860, 1, none⟩ = some (.int .i64 0) := (blk_cell BK860.out 1).trans rfl; have hcz48_2 : w47.cell? ⟨gb860, 2, none⟩ = some (.int .i64 0) := (blk_cell BK860.out 2).trans rfl; have hcz48_3 : w47.cell? ⟨gb860, 3, none⟩ = some (.int .i64 0) := (blk_cell BK860.out 3).trans rfl; have hcz48_4 : w47.cell? ⟨gb860, 4, none⟩ = some (.int .i64 0) := (blk_cell BK860.out 4).trans rfl; have hcz48_5 : w47.cell? ⟨gb860, 5, none⟩ = some (.int .i64 0) := (blk_cell BK860.out 5).trans rfl; have hcz48_6 : w47.cell? ⟨gb860, 6, none⟩ = some (.int .i64 0) := (blk_cell BK860.out 6).trans rfl; have hcz48_7 : w47.cell? ⟨gb860, 7, none⟩ = some (.int .i64 0) := (blk_cell BK860.out 7).trans rfl; have hcz48_8 : w47.cell? ⟨gb860, 8, none⟩ = some (.int .i64 0) := (blk_cell BK860.out 8).trans rfl; have hfz48_0 := blk_frozen BK860.out 0; have hfz48_1 := blk_frozen BK860.out 1; have hfz48_2 := blk_frozen BK860.out 2; have hfz48_3 := blk_frozen BK860.out 3; have hfz48_4 := blk_frozen BK860.out 4; have hfz48_5 := blk_frozen BK860.out 5; have hfz48_6 := blk_frozen BK860.out 6; have hfz48_7 := blk_frozen BK860.out 7; have hfz48_8 := blk_frozen BK860.out 8) | ((with_reducible refine gate_callee (f := 29) rfl ?_); refine goesL_ (some 92) rfl rfl Try.func29 (by kernel_rfl) rfl #[.agg #[.int .i64 t850, .int .i64 t851, .int .i64 t852, .int .i64 t853, .int .i64 t854, .int .i64 t855, .int .i64 t856, .int .i64 t857, .int .i64 t858]] rfl (by (try simp only [List.map_toArray, List.map_cons, List.map_nil]); first | done | rfl | (simp only [List.length_drop, List.length_take]; rfl)) ?_; (with_reducible refine (message_Encode.calls t850 t851 t852 t853 t854 t855 t856 t857 t858 t861 t864 _ A35.out).mono ?_); rintro e w49 ⟨v862, rfl, ho0, hb⟩; refine ⟨_, rfl, ?_⟩; have n0_ := Aside0.mk (Kd.R_lower ho0 (below_size (by repeat (first | (with_reducible first | exact HB.out | apply below_alloc | apply pw_below_drewN | apply below_drew1 | refine below_set ?_ GE860.out) | exact HB.out)))); have n1_ := Aside0.mk (blk_below (g := gb860) (o := .cells #[.int .i64 t850, .int .i64 t851, .int .i64 t852, .int .i64 t853, .int .i64 t854, .int .i64 t855, .int .i64 t856, .int .i64 t857, .int .i64 t858] 29 (0, 0)) (by (with_reducible repeat (first | refine blk_drewN ?_ _ | refine blk_drew ?_ | refine blk_alloc ?_ _)); refine blk_put (cs := #[.int .i64 t850, .int .i64 t851, .int .i64 t852, .int .i64 t853, .int .i64 t854, .int .i64 t855, .int .i64 t856, .int .i64 t857, .int .i64 0]) ?_ 8 _ rfl; (with_reducible repeat (first | refine blk_drewN ?_ _ | refine blk_drew ?_ | refine blk_alloc ?_ _)); refine blk_put (cs := #[.int .i64 t850, .int .i64 t851, .int .i64 t852, .int .i64 t853, .int .i64 t854, .int .i64 t855, .int .i64 t856, .int .i64 0, .int .i64 0]) ?_ 7 _ rfl; (with_reducible repeat (first | refine blk_drewN ?_ _ | refine blk_drew ?_ | refine blk_alloc ?_ _)); refine blk_put (cs := #[.int .i64 t850, .int .i64 t851, .int .i64 t852, .int .i64 t853, .int .i64 t854, .int .i64 t855, .int .i64 0, .int .i64 0, .int .i64 0]) ?_ 6 _ rfl; (with_reducible repeat (first | refine blk_drewN ?_ _ | refine blk_drew ?_ | refine blk_alloc ?_ _)); refine blk_put (cs := #[.int .i64 t850, .int .i64 t851, .int .i64 t852, .int .i64 t853, .int .i64 t854, .int .i64 0, .int .i64 0, .int .i64 0, .int .i64 0]) ?_ 5 _ rfl; (with_reducible repeat (first | refine blk_drewN ?_ _ | refine blk_drew ?_ | refine blk_alloc ?_ _)); refine blk_put (cs := #[.int .i64 t850, .int .i64 t851, .int .i64 t852, .int .i64 t853, .int .i64 0, .int .i64 0, .int .i64 0, .int .i64 0, .int .i64 0]) ?_ 4 _ rfl; (with_reducible repeat (first | refine blk_drewN ?_ _ | refine blk_drew ?_ | refine blk_alloc ?_ _)); refine blk_put (cs := #[.int .i64 t850, .int .i64 t851, .int .i64 t852, .int .i64 0, .int .i64 0, .int .i64 0, .int .i64 0, .int .i64 0, .int .i64 0]) ?_ 3 _ rfl; (with_reducible repeat (first | refine blk_drewN ?_ _ | refine blk_drew ?_ | refine blk_alloc ?_ _)); refine blk_put (cs := #[.int .i64 t850, .int .i64 t851, .int .i64 0, .int .i64 0, .int .i64 0, .int .i64 0, .int .i64 0, .int .i64 0, .int .i64 0]) ?_ 2 _ rfl; (with_reducible repeat (first | refine blk_drewN ?_ _ | refine blk_drew ?_ | refine blk_alloc ?_ _)); refine blk_put (cs := #[.int .i64 t850, .int .i64 0, .int .i64 0, .int .i64 0, .int .i64 0, .int .i64 0, .int .i64 0, .int .i64 0, .int .i64 0]) ?_ 1 _ rfl; (with_reducible repeat (first | refine blk_drewN ?_ _ | refine blk_drew ?_ | refine blk_alloc ?_ _)); refine blk_put (cs := #[.int .i64 0, .int .i64 0, .int .i64 0, .int .i64 0, .int .i64 0, .int .i64 0, .int .i64 0, .int .i64 0, .int .i64 0]) ?_ 0 _ rfl; (with_reducible repeat (first | refine blk_drewN ?_ _ | refine blk_drew ?_ | refine blk_alloc ?_ _)); exact BK860.out) hb); have n2_ := Aside0.mk (below_step (by repeat (first | (with_reducible first | exact HB.out | apply below_alloc | apply pw_below_drewN | apply below_drew1 | refine below_set ?_ GE860.out) | exact HB.out)) hb); clear BK860; clear HB; have HO863 := n0_; have BK860 := n1_; have HB := n2_; clear n0_ n1_ n2_; (try clear hb); (try clear hb2); (try clear hk); (try clear hi); (try clear ho0); obtain ⟨Ao50, co50, eo50⟩ := Kd.R_slice HO863.out; subst eo50) | (go_at_call 31; (with_reducible refine (damperref03_Same.calls _ _ t861 _ _ l1 false _ ?side1 ?side2 ?side3 ?side4 A37.out).mono ?_); (case side1 => repeat (first | exact (Kd.R_reads' HO863.out).2.2 | (with_reducible refine Kd.C_alloc ?_ _) | (with_reducible refine Kd.C_drewN ?_ _) | (with_reducible refine Kd.C_drew ?_))); (case side2 => exact (Kd.R_reads' HO863.out).2.1); (case side3 => repeat (first | exact (Kd.C_below HR1.out HB.out) | (with_reducible refine Kd.C_alloc ?_ _) | (with_reducible refine Kd.C_drewN ?_ _) | (with_reducible refine Kd.C_drew ?_))); (case side4 => exact HC1.out); rintro e w' ⟨rfl, ⟨nd, rfl⟩⟩))
                          go_ret
                          exact ⟨by first | rfl | (simp [errW_none, errW_some] <;> rfl) | (simp [*, errW_none, errW_some] <;> rfl), by repeat (first | (with_reducible first | exact HB.out | apply below_alloc | apply pw_below_drewN | apply below_drew1 | refine below_set ?_ GE860.out) | exact HB.out)⟩
                      · rw [if_neg c36] at H
                        have c36b0 : (t864 == 0) = false := beq_eq_false_iff_ne.mpr c36
                        have c36b1 : (t864 != 0) = true := bne_iff_ne.mpr c36
                        obtain rfl := Option.some.inj H
                        go_wp2_with (first | ((with_reducible refine gate_callee (f := 80) rfl ?_); refine goesL_ (some 79) rfl rfl Try.func80 (by kernel_rfl) rfl #[.slice A1 l1.length c1] rfl (by (try simp only [List.map_toArray, List.map_cons, List.map_nil]); first | done | rfl | (simp only [List.length_drop, List.length_take]; rfl)) ?_; (with_reducible refine (message_Decode.calls _ _ l1 t850 t851 t852 t853 t854 t855 t856 t857 t858 t859 _ ?side1 ?side2 A33.out).mono ?_); (case side1 => repeat (first | exact (Kd.C_below HR1.out HB.out) | (with_reducible refine Kd.C_alloc ?_ _) | (with_reducible refine Kd.C_drewN ?_ _) | (with_reducible refine Kd.C_drew ?_))); (case side2 => exact HC1.out); rintro e w51 ⟨rfl, hb⟩; refine ⟨_, rfl, ?_⟩; have n0_ := Aside0.mk (below_step (by repeat (first | (with_reducible first | exact HB.out | apply below_alloc | apply pw_below_drewN | apply below_drew1) | exact HB.out)) hb); clear HB; have HB := n0_; clear n0_; (try clear hb); (try clear hb2); (try clear hk); (try clear hi)) | ((with_reducible refine gate_dst (N := 12) rfl ?_); (try (refine gate_guard (by rfl) ?_; dsimp only)); refine box_event ?hg (N := 12) ?hd (cs := #[.int .i64 0, .int .i64 0, .int .i64 0, .int .i64 0, .int .i64 0, .int .i64 0, .int .i64 0, .int .i64 0, .int .i64 0]) (t := 29) ?hr ?_; (case hd => rfl); (case hg => rfl); (case hr => first | (go_simp; done) | (go_simp; rfl)); intro gb860 hg w52 hbox hb; have n0_ := Aside0.mk (below_step (by repeat (first | (with_reducible first | exact HB.out | apply below_alloc | apply pw_below_drewN | apply below_drew1) | exact HB.out)) hb); have n1_ := Aside0.mk (hbox); have n2_ := Aside0.mk ((by rw [hg]; exact (below_size (by repeat (first | (with_reducible first | exact HB.out | apply below_alloc | apply pw_below_drewN | apply below_drew1) | exact HB.out))) : w.heap.size ≤ gb860)); have n3_ := Aside0.mk ((by rw [hg]; exact (below_size (by repeat (first | (with_reducible first | exact HB.out | apply below_alloc | apply pw_below_drewN | apply below_drew1) | exact HB.out))) : w.heap.size ≤ gb860)); clear HB; have HB := n0_; have BK860 := n1_; have GW860 := n2_; have GE860 := n3_; clear n0_ n1_ n2_ n3_; clear hb hbox hg; have hcz53_0 : w52.cell? ⟨gb860, 0, none⟩ = some (.int .i64 0) := (blk_cell BK860.out 0).trans rfl; have hcz53_1 : w52.cell? ⟨gb860, 1, none⟩ = some (.int .i64 0) := (blk_cell BK860.out 1).trans rfl; have hcz53_2 : w52.cell? ⟨gb860, 2, none⟩ = some (.int .i64 0) := (blk_cell BK860.out 2).trans rfl; have hcz53_3 : w52.cell? ⟨gb860, 3, none⟩ = some (.int .i64 0) := (blk_cell BK860.out 3).trans rfl; have hcz53_4 : w52.cell? ⟨gb860, 4, none⟩ = some (.int .i64 0) := (blk_cell BK860.out 4).trans rfl; have hcz53_5 : w52.cell? ⟨gb860, 5, none⟩ = some (.int .i64 0) := (blk_cell BK860.out 5).trans rfl; have hcz53_6 : w52.cell? ⟨gb860, 6, none⟩ = some (.int .i64 0) := (blk_cell BK860.out 6).trans rfl; have hcz53_7 : w52.cell? ⟨gb860, 7, none⟩ = some (.int .i64 0) := (blk_cell BK860.out 7).trans rfl; have hcz53_8 : w52.cell? ⟨gb860, 8, none⟩ = some (.int .i64 0) := (blk_cell BK860.out 8).trans rfl; have hfz53_0 := blk_frozen BK860.out 0; have hfz53_1 := blk_frozen BK860.out 1; have hfz53_2 := blk_frozen BK860.out 2; have hfz53_3 := blk_frozen BK860.out 3; have hfz53_4 := blk_frozen BK860.out 4; have hfz53_5 := blk_frozen BK860.out 5; have hfz53_6 := blk_frozen BK860.out 6; have hfz53_7 := blk_frozen BK860.out 7; have hfz53_8 := blk_frozen BK860.out 8) | ((with_reducible refine gate_callee (f := 29) rfl ?_); refine goesL_ (some 92) rfl rfl Try.func29 (by kernel_rfl) rfl #[.agg #[.int .i64 t850, .int .i64 t851, .int .i64 t852, .int .i64 t853, .int .i64 t854, .int .i64 t855, .int .i64 t856, .int .i64 t857, .int .i64 t858]] rfl (by (try simp only [List.map_toArray, List.map_cons, List.map_nil]); first | done | rfl | (simp only [List.length_drop, List.length_take]; rfl)) ?_; (with_reducible refine (message_Encode.calls t850 t851 t852 t853 t854 t855 t856 t857 t858 t861 t864 _ A35.out).mono ?_); rintro e w54 ⟨v862, rfl, ho0, hb⟩; refine ⟨_, rfl, ?_⟩; have n0_ := Aside0.mk (Kd.R_lower ho0 (below_size (by repeat (first | (with_reducible first | exact HB.out | apply below_alloc | apply pw_below_drewN | apply below_drew1 | refine below_set ?_ GE860.out) | exact HB.out)))); have n1_ := Aside0.mk (blk_below (g := gb860) (o := .cells #[.int .i64 t850, .int .i64 t851, .int .i64 t852, .int .i64 t853, .int .i64 t854, .int .i64 t855, .int .i64 t856, .int .i64 t857, .int .i64 t858] 29 (0, 0)) (by (with_reducible repeat (first | refine blk_drewN ?_ _ | refine blk_drew ?_ | refine blk_alloc ?_ _)); refine blk_put (cs := #[.int .i64 t850, .int .i64 t851, .int .i64 t852, .int .i64 t853, .int .i64 t854, .int .i64 t855, .int .i64 t856, .int .i64 t857, .int .i64 0]) ?_ 8 _ rfl; (with_reducible repeat (first | refine blk_drewN ?_ _ | refine blk_drew ?_ | refine blk_alloc ?_ _)); refine blk_put (cs := #[.int .i64 t850, .int .i64 t851, .int .i64 t852, .int .i64 t853, .int .i64 t854, .int .i64 t855, .int .i64 t856, .int .i64 0, .int .i64 0]) ?_ 7 _ rfl; (with_reducible repeat (first | refine blk_drewN ?_ _ | refine blk_drew ?_ | refine blk_alloc ?_ _)); refine blk_put (cs := #[.int .i64 t850, .int .i64 t851, .int .i64 t852, .int .i64 t853, .int .i64 t854, .int .i64 t855, .int .i64 0, .int .i64 0, .int .i64 0]) ?_ 6 _ rfl; (with_reducible repeat (first | refine blk_drewN ?_ _ | refine blk_drew ?_ | refine blk_alloc ?_ _)); refine blk_put (cs := #[.int .i64 t850, .int .i64 t851, .int .i64 t852, .int .i64 t853, .int .i64 t854, .int .i64 0, .int .i64 0, .int .i64 0, .int .i64 0]) ?_ 5 _ rfl; (with_reducible repeat (first | refine blk_drewN ?_ _ | refine blk_drew ?_ | refine blk_alloc ?_ _)); refine blk_put (cs := #[.int .i64 t850, .int .i64 t851, .int .i64 t852, .int .i64 t853, .int .i64 0, .int .i64 0, .int .i64 0, .int .i64 0, .int .i64 0]) ?_ 4 _ rfl; (with_reducible repeat (first | refine blk_drewN ?_ _ | refine blk_drew ?_ | refine blk_alloc ?_ _)); refine blk_put (cs := #[.int .i64 t850, .int .i64 t851, .int .i64 t852, .int .i64 0, .int .i64 0, .int .i64 0, .int .i64 0, .int .i64 0, .int .i64 0]) ?_ 3 _ rfl; (with_reducible repeat (first | refine blk_drewN ?_ _ | refine blk_drew ?_ | refine blk_alloc ?_ _)); refine blk_put (cs := #[.int .i64 t850, .int .i64 t851, .int .i64 0, .int .i64 0, .int .i64 0, .int .i64 0, .int .i64 0, .int .i64 0, .int .i64 0]) ?_ 2 _ rfl; (with_reducible repeat (first | refine blk_drewN ?_ _ | refine blk_drew ?_ | refine blk_alloc ?_ _)); refine blk_put (cs := #[.int .i64 t850, .int .i64 0, .int .i64 0, .int .i64 0, .int .i64 0, .int .i64 0, .int .i64 0, .int .i64 0, .int .i64 0]) ?_ 1 _ rfl; (with_reducible repeat (first | refine blk_drewN ?_ _ | refine blk_drew ?_ | refine blk_alloc ?_ _)); refine blk_put (cs := #[.int .i64 0, .int .i64 0, .int .i64 0, .int .i64 0, .int .i64 0, .int .i64 0, .int .i64 0, .int .i64 0, .int .i64 0]) ?_ 0 _ rfl; (with_reducible repeat (first | refine blk_drewN ?_ _ | refine blk_drew ?_ | refine blk_alloc ?_ _)); exact BK860.out) hb); have n2_ := Aside0.mk (below_step (by repeat (first | (with_reducible first | exact HB.out | apply below_alloc | apply pw_below_drewN | apply below_drew1 | refine below_set ?_ GE860.out) | exact HB.out)) hb); clear BK860; clear HB; have HO863 := n0_; have BK860 := n1_; have HB := n2_; clear n0_ n1_ n2_; (try clear hb); (try clear hb2); (try clear hk); (try clear hi); (try clear ho0)))
                        go_ret
                        exact ⟨by first | rfl | (simp [errW_none, errW_some] <;> rfl) | (simp [*, errW_none, errW_some] <;> rfl), by repeat (first | (with_reducible first | exact HB.out | apply below_alloc | apply pw_below_drewN | apply below_drew1 | refine below_set ?_ GE860.out) | exact HB.out)⟩
                    · rw [if_neg c34] at H
                      have c34b0 : (t859 == 0) = false := beq_eq_false_iff_ne.mpr c34
                      have c34b1 : (t859 != 0) = true := bne_iff_ne.mpr c34
                      by_cases c55 : (t850 == 0 && (t851 == 0 && (t852 == 0 && (t853 == 0 && (t854 == 0 && (t855 == 0 && (t856 == 0 && (t857 == 0 && (t858 == 0))))))))) = true
                      · rw [if_pos c55] at H
                        have c55b0 : (t850 == 0 && (t851 == 0 && (t852 == 0 && (t853 == 0 && (t854 == 0 && (t855 == 0 && (t856 == 0 && (t857 == 0 && (t858 == 0))))))))) = true := c55
                        (try (have c55b1 : decide (t850 = 0 && (t851 == 0 && (t852 == 0 && (t853 == 0 && (t854 == 0 && (t855 == 0 && (t856 == 0 && (t857 == 0 && (t858 == 0))))))))) = true := by simpa using c55))
                        (try (have c55b2 : (t850 == 0 && (t851 == 0 && (t852 == 0 && (t853 == 0 && (t854 == 0 && (t855 == 0 && (t856 == 0 && (t857 == 0 && (t858 == 0))))))))) = true := by simpa using c55))
                        clear c55
                        replace H := Option.bind_eq_some_iff.mp H
                        obtain ⟨t867, A560, H⟩ := H
                        replace H : (some t867) = some r := H
                        have A56 := Aside0.mk A560
                        clear A560
                        obtain rfl := Option.some.inj H
                        go_wp2_with (first | ((with_reducible refine gate_callee (f := 80) rfl ?_); refine goesL_ (some 79) rfl rfl Try.func80 (by kernel_rfl) rfl #[.slice A1 l1.length c1] rfl (by (try simp only [List.map_toArray, List.map_cons, List.map_nil]); first | done | rfl | (simp only [List.length_drop, List.length_take]; rfl)) ?_; (with_reducible refine (message_Decode.calls _ _ l1 t850 t851 t852 t853 t854 t855 t856 t857 t858 t859 _ ?side1 ?side2 A33.out).mono ?_); (case side1 => repeat (first | exact (Kd.C_below HR1.out HB.out) | (with_reducible refine Kd.C_alloc ?_ _) | (with_reducible refine Kd.C_drewN ?_ _) | (with_reducible refine Kd.C_drew ?_))); (case side2 => exact HC1.out); rintro e w57 ⟨rfl, hb⟩; refine ⟨_, rfl, ?_⟩; have n0_ := Aside0.mk (below_step (by repeat (first | (with_reducible first | exact HB.out | apply below_alloc | apply pw_below_drewN | apply below_drew1) | exact HB.out)) hb); clear HB; have HB := n0_; clear n0_; (try clear hb); (try clear hb2); (try clear hk); (try clear hi)) | ((with_reducible refine gate_dst (N := 12) rfl ?_); (try (refine gate_guard (by rfl) ?_; dsimp only)); refine box_event ?hg (N := 12) ?hd (cs := #[.int .i64 0, .int .i64 0, .int .i64 0, .int .i64 0, .int .i64 0, .int .i64 0, .int .i64 0, .int .i64 0, .int .i64 0]) (t := 29) ?hr ?_; (case hd => rfl); (case hg => rfl); (case hr => first | (go_simp; done) | (go_simp; rfl)); intro gb860 hg w58 hbox hb; have n0_ := Aside0.mk (below_step (by repeat (first | (with_reducible first | exact HB.out | apply below_alloc | apply pw_below_drewN | apply below_drew1) | exact HB.out)) hb); have n1_ := Aside0.mk (hbox); have n2_ := Aside0.mk ((by rw [hg]; exact (below_size (by repeat (first | (with_reducible first | exact HB.out | apply below_alloc | apply pw_below_drewN | apply below_drew1) | exact HB.out))) : w.heap.size ≤ gb860)); have n3_ := Aside0.mk ((by rw [hg]; exact (below_size (by repeat (first | (with_reducible first | exact HB.out | apply below_alloc | apply pw_below_drewN | apply below_drew1) | exact HB.out))) : w.heap.size ≤ gb860)); clear HB; have HB := n0_; have BK860 := n1_; have GW860 := n2_; have GE860 := n3_; clear n0_ n1_ n2_ n3_; clear hb hbox hg; have hcz59_0 : w58.cell? ⟨gb860, 0, none⟩ = some (.int .i64 0) := (blk_cell BK860.out 0).trans rfl; have hcz59_1 : w58.cell? ⟨gb860, 1, none⟩ = some (.int .i64 0) := (blk_cell BK860.out 1).trans rfl; have hcz59_2 : w58.cell? ⟨gb860, 2, none⟩ = some (.int .i64 0) := (blk_cell BK860.out 2).trans rfl; have hcz59_3 : w58.cell? ⟨gb860, 3, none⟩ = some (.int .i64 0) := (blk_cell BK860.out 3).trans rfl; have hcz59_4 : w58.cell? ⟨gb860, 4, none⟩ = some (.int .i64 0) := (blk_cell BK860.out 4).trans rfl; have hcz59_5 : w58.cell? ⟨gb860, 5, none⟩ = some (.int .i64 0) := (blk_cell BK860.out 5).trans rfl; have hcz59_6 : w58.cell? ⟨gb860, 6, none⟩ = some (.int .i64 0) := (blk_cell BK860.out 6).trans rfl; have hcz59_7 : w58.cell? ⟨gb860, 7, none⟩ = some (.int .i64 0) := (blk_cell BK860.out 7).trans rfl; have hcz59_8 : w58.cell? ⟨gb860, 8, none⟩ = some (.int .i64 0) := (blk_cell BK860.out 8).trans rfl; have hfz59_0 := blk_frozen BK860.out 0; have hfz59_1 := blk_frozen BK860.out 1; have hfz59_2 := blk_frozen BK860.out 2; have hfz59_3 := blk_frozen BK860.out 3; have hfz59_4 := blk_frozen BK860.out 4; have hfz59_5 := blk_frozen BK860.out 5; have hfz59_6 := blk_frozen BK860.out 6; have hfz59_7 := blk_frozen BK860.out 7; have hfz59_8 := blk_frozen BK860.out 8) | (go_at_call 35; (with_reducible refine (damperlaw06_alive.calls  t867 _ A56.out).mono ?_); rintro e w60 ⟨rfl, hb⟩; have n0_ := Aside0.mk (blk_below (g := gb860) (o := .cells #[.int .i64 t850, .int .i64 t851, .int .i64 t852, .int .i64 t853, .int .i64 t854, .int .i64 t855, .int .i64 t856, .int .i64 t857, .int .i64 t858] 29 (0, 0)) (by (with_reducible repeat (first | refine blk_drewN ?_ _ | refine blk_drew ?_ | refine blk_alloc ?_ _)); refine blk_put (cs := #[.int .i64 t850, .int .i64 t851, .int .i64 t852, .int .i64 t853, .int .i64 t854, .int .i64 t855, .int .i64 t856, .int .i64 t857, .int .i64 0]) ?_ 8 _ rfl; (with_reducible repeat (first | refine blk_drewN ?_ _ | refine blk_drew ?_ | refine blk_alloc ?_ _)); refine blk_put (cs := #[.int .i64 t850, .int .i64 t851, .int .i64 t852, .int .i64 t853, .int .i64 t854, .int .i64 t855, .int .i64 t856, .int .i64 0, .int .i64 0]) ?_ 7 _ rfl; (with_reducible repeat (first | refine blk_drewN ?_ _ | refine blk_drew ?_ | refine blk_alloc ?_ _)); refine blk_put (cs := #[.int .i64 t850, .int .i64 t851, .int .i64 t852, .int .i64 t853, .int .i64 t854, .int .i64 t855, .int .i64 0, .int .i64 0, .int .i64 0]) ?_ 6 _ rfl; (with_reducible repeat (first | refine blk_drewN ?_ _ | refine blk_drew ?_ | refine blk_alloc ?_ _)); refine blk_put (cs := #[.int .i64 t850, .int .i64 t851, .int .i64 t852, .int .i64 t853, .int .i64 t854, .int .i64 0, .int .i64 0, .int .i64 0, .int .i64 0]) ?_ 5 _ rfl; (with_reducible repeat (first | refine blk_drewN ?_ _ | refine blk_drew ?_ | refine blk_alloc ?_ _)); refine blk_put (cs := #[.int .i64 t850, .int .i64 t851, .int .i64 t852, .int .i64 t853, .int .i64 0, .int .i64 0, .int .i64 0, .int .i64 0, .int .i64 0]) ?_ 4 _ rfl; (with_reducible repeat (first | refine blk_drewN ?_ _ | refine blk_drew ?_ | refine blk_alloc ?_ _)); refine blk_put (cs := #[.int .i64 t850, .int .i64 t851, .int .i64 t852, .int .i64 0, .int .i64 0, .int .i64 0, .int .i64 0, .int .i64 0, .int .i64 0]) ?_ 3 _ rfl; (with_reducible repeat (first | refine blk_drewN ?_ _ | refine blk_drew ?_ | refine blk_alloc ?_ _)); refine blk_put (cs := #[.int .i64 t850, .int .i64 t851, .int .i64 0, .int .i64 0, .int .i64 0, .int .i64 0, .int .i64 0, .int .i64 0, .int .i64 0]) ?_ 2 _ rfl; (with_reducible repeat (first | refine blk_drewN ?_ _ | refine blk_drew ?_ | refine blk_alloc ?_ _)); refine blk_put (cs := #[.int .i64 t850, .int .i64 0, .int .i64 0, .int .i64 0, .int .i64 0, .int .i64 0, .int .i64 0, .int .i64 0, .int .i64 0]) ?_ 1 _ rfl; (with_reducible repeat (first | refine blk_drewN ?_ _ | refine blk_drew ?_ | refine blk_alloc ?_ _)); refine blk_put (cs := #[.int .i64 0, .int .i64 0, .int .i64 0, .int .i64 0, .int .i64 0, .int .i64 0, .int .i64 0, .int .i64 0, .int .i64 0]) ?_ 0 _ rfl; (with_reducible repeat (first | refine blk_drewN ?_ _ | refine blk_drew ?_ | refine blk_alloc ?_ _)); exact BK860.out) hb); have n1_ := Aside0.mk (below_step (by repeat (first | (with_reducible first | exact HB.out | apply below_alloc | apply pw_below_drewN | apply below_drew1 | refine below_set ?_ GE860.out) | exact HB.out)) hb); clear BK860; clear HB; have BK860 := n0_; have HB := n1_; clear n0_ n1_; (try clear hb); (try clear hb2); (try clear hk); (try clear hi)))
                        go_ret
                        exact ⟨by first | rfl | (simp [errW_none, errW_some] <;> rfl) | (simp [*, errW_none, errW_some] <;> rfl), by repeat (first | (with_reducible first | exact HB.out | apply below_alloc | apply pw_below_drewN | apply below_drew1 | refine below_set ?_ GE860.out) | exact HB.out)⟩
                      · rw [if_neg c55] at H
                        have c55b0 : (t850 == 0 && (t851 == 0 && (t852 == 0 && (t853 == 0 && (t854 == 0 && (t855 == 0 && (t856 == 0 && (t857 == 0 && (t858 == 0))))))))) = false := by simpa using c55
                        (try (have c55b1 : decide (t850 = 0 && (t851 == 0 && (t852 == 0 && (t853 == 0 && (t854 == 0 && (t855 == 0 && (t856 == 0 && (t857 == 0 && (t858 == 0))))))))) = false := by simpa using c55))
                        (try (have c55b2 : (t850 == 0 && (t851 == 0 && (t852 == 0 && (t853 == 0 && (t854 == 0 && (t855 == 0 && (t856 == 0 && (t857 == 0 && (t858 == 0))))))))) = false := by simpa using c55))
                        (try (have c55b3 : ¬ (t850 = 0 && (t851 == 0 && (t852 == 0 && (t853 == 0 && (t854 == 0 && (t855 == 0 && (t856 == 0 && (t857 == 0 && (t858 == 0))))))))) := by simpa using c55))
                        clear c55
                        obtain rfl := Option.some.inj H
                        go_wp2_with (first | ((with_reducible refine gate_callee (f := 80) rfl ?_); refine goesL_ (some 79) rfl rfl Try.func80 (by kernel_rfl) rfl #[.slice A1 l1.length c1] rfl (by (try simp only [List.map_toArray, List.map_cons, List.map_nil]); first | done | rfl | (simp only [List.length_drop, List.length_take]; rfl)) ?_; (with_reducible refine (message_Decode.calls _ _ l1 t850 t851 t852 t853 t854 t855 t856 t857 t858 t859 _ ?side1 ?side2 A33.out).mono ?_); (case side1 => repeat (first | exact (Kd.C_below HR1.out HB.out) | (with_reducible refine Kd.C_alloc ?_ _) | (with_reducible refine Kd.C_drewN ?_ _) | (with_reducible refine Kd.C_drew ?_))); (case side2 => exact HC1.out); rintro e w61 ⟨rfl, hb⟩; refine ⟨_, rfl, ?_⟩; have n0_ := Aside0.mk (below_step (by repeat (first | (with_reducible first | exact HB.out | apply below_alloc | apply pw_below_drewN | apply below_drew1) | exact HB.out)) hb); clear HB; have HB := n0_; clear n0_; (try clear hb); (try clear hb2); (try clear hk); (try clear hi)) | ((with_reducible refine gate_dst (N := 12) rfl ?_); (try (refine gate_guard (by rfl) ?_; dsimp only)); refine box_event ?hg (N := 12) ?hd (cs := #[.int .i64 0, .int .i64 0, .int .i64 0, .int .i64 0, .int .i64 0, .int .i64 0, .int .i64 0, .int .i64 0, .int .i64 0]) (t := 29) ?hr ?_; (case hd => rfl); (case hg => rfl); (case hr => first | (go_simp; done) | (go_simp; rfl)); intro gb860 hg w62 hbox hb; have n0_ := Aside0.mk (below_step (by repeat (first | (with_reducible first | exact HB.out | apply below_alloc | apply pw_below_drewN | apply below_drew1) | exact HB.out)) hb); have n1_ := Aside0.mk (hbox); have n2_ := Aside0.mk ((by rw [hg]; exact (below_size (by repeat (first | (with_reducible first | exact HB.out | apply below_alloc | apply pw_below_drewN | apply below_drew1) | exact HB.out))) : w.heap.size ≤ gb860)); have n3_ := Aside0.mk ((by rw [hg]; exact (below_size (by repeat (first | (with_reducible first | exact HB.out | apply below_alloc | apply pw_below_drewN | apply below_drew1) | exact HB.out))) : w.heap.size ≤ gb860)); clear HB; have HB := n0_; have BK860 := n1_; have GW860 := n2_; have GE860 := n3_; clear n0_ n1_ n2_ n3_; clear hb hbox hg; have hcz63_0 : w62.cell? ⟨gb860, 0, none⟩ = some (.int .i64 0) := (blk_cell BK860.out 0).trans rfl; have hcz63_1 : w62.cell? ⟨gb860, 1, none⟩ = some (.int .i64 0) := (blk_cell BK860.out 1).trans rfl; have hcz63_2 : w62.cell? ⟨gb860, 2, none⟩ = some (.int .i64 0) := (blk_cell BK860.out 2).trans rfl; have hcz63_3 : w62.cell? ⟨gb860, 3, none⟩ = some (.int .i64 0) := (blk_cell BK860.out 3).trans rfl; have hcz63_4 : w62.cell? ⟨gb860, 4, none⟩ = some (.int .i64 0) := (blk_cell BK860.out 4).trans rfl; have hcz63_5 : w62.cell? ⟨gb860, 5, none⟩ = some (.int .i64 0) := (blk_cell BK860.out 5).trans rfl; have hcz63_6 : w62.cell? ⟨gb860, 6, none⟩ = some (.int .i64 0) := (blk_cell BK860.out 6).trans rfl; have hcz63_7 : w62.cell? ⟨gb860, 7, none⟩ = some (.int .i64 0) := (blk_cell BK860.out 7).trans rfl; have hcz63_8 : w62.cell? ⟨gb860, 8, none⟩ = some (.int .i64 0) := (blk_cell BK860.out 8).trans rfl; have hfz63_0 := blk_frozen BK860.out 0; have hfz63_1 := blk_frozen BK860.out 1; have hfz63_2 := blk_frozen BK860.out 2; have hfz63_3 := blk_frozen BK860.out 3; have hfz63_4 := blk_frozen BK860.out 4; have hfz63_5 := blk_frozen BK860.out 5; have hfz63_6 := blk_frozen BK860.out 6; have hfz63_7 := blk_frozen BK860.out 7; have hfz63_8 := blk_frozen BK860.out 8))
                        go_ret
                        exact ⟨by first | rfl | (simp [errW_none, errW_some] <;> rfl) | (simp [*, errW_none, errW_some] <;> rfl), by repeat (first | (with_reducible first | exact HB.out | apply below_alloc | apply pw_below_drewN | apply below_drew1 | refine below_set ?_ GE860.out) | exact HB.out)⟩

end Go.Proofs.Ytalpemoodollpaa.P
/- Messages: the program's encoding, plain. -/
namespace Go.Proofs.Ytalpemoodollpaa.P
open Go.RowKit Go.Proofs.YtalpemoodollpaaW.PrintWords Go.Proofs.YtalpemoodollpaaW.PrintLast Go.Proofs.YtalpemoodollpaaW.PrintMore
set_option linter.unusedVariables false
set_option linter.unusedSimpArgs false
theorem up0_ {α : Type} {f : Nat → Option α} (hm : ∀ k, LeO (f k) (f (k + 1))) {k : Nat} {r : α} (h : f k = some r) : ∀ m, k ≤ m → f m = some r := by
  intro m hm'
  induction m with
  | zero => obtain rfl : k = 0 := by omega
            exact h
  | succ m ih =>
    rcases Nat.lt_or_ge m k with h1 | h1
    · obtain rfl : k = m + 1 := by omega
      exact h
    · exact hm m r (ih h1)

theorem msgEncode_f (m : S29) (h6 : i64B m.f6 = true) (h7 : i64B m.f7 = true) :
    message_Encode.f m.f0 m.f1 m.f2 m.f3 m.f4 m.f5 m.f6 m.f7 m.f8 = some (if msgRight m = true then (msgForm m, 0) else ([], 1)) := by
  unfold message_Encode.f
  rw [if_pos ⟨h6, h7⟩]
theorem alive06 : damperlaw06_alive.f = some true := by
  unfold damperlaw06_alive.f
  rw [msgEncode_f ⟨6, 1, 0, 0, 0, 0, 0, 0, 2⟩ (by decide) (by decide), if_pos (by decide)]
  have hl : (msgForm ⟨6, 1, 0, 0, 0, 0, 0, 0, 2⟩).length = 37 := by
    simp [msgForm, numForm_lt, intForm_length]
  simp only [Option.bind_some, hl]
  have h0 : rd (msgForm ⟨6, 1, 0, 0, 0, 0, 0, 0, 2⟩) 0 = 6 := rfl
  have h2 : rd (msgForm ⟨6, 1, 0, 0, 0, 0, 0, 0, 2⟩) 2 = 2 := rfl
  simp [h0, h2, message_Is.f]
theorem msgRight_up (m : S29) (k : Nat) (hk : 4 ≤ k) : message_Right.f k m.f0 m.f1 m.f2 m.f3 m.f4 m.f5 m.f6 m.f7 m.f8 = some (msgRight m) :=
  up0_ (f := fun k => message_Right.f k m.f0 m.f1 m.f2 m.f3 m.f4 m.f5 m.f6 m.f7 m.f8) (fun k => message_Right.mono _ _ _ _ _ _ _ _ _ k) (msgRight_f m) k hk
end Go.Proofs.Ytalpemoodollpaa.P
/- The stream of messages, plain. -/
namespace Go.Proofs.Ytalpemoodollpaa.P
open Go.RowKit Go.Proofs.YtalpemoodollpaaW.PrintWords Go.Proofs.YtalpemoodollpaaW.PrintLast Go.Proofs.YtalpemoodollpaaW.PrintMore
set_option linter.unusedVariables false
set_option linter.unusedSimpArgs false
/-- The stream of messages. -/
def strm : List S29 → List Int → List Int × Int
  | [], acc => (acc, 0)
  | m :: ms, acc => if msgRight m = true then strm ms (acc ++ putF (msgForm m)) else ([], 1)
theorem wrap_succ (i : Nat) (h : i ≤ 1000000) : wrap64 ((i : Int) + 1) = ((i + 1 : Nat) : Int) := by rw [wrap64_eq]; omega
theorem rd29_drop (l : List S29) (i : Nat) (h : i < l.length) : l.drop i = rd_T29 l (i : Int) :: l.drop (i + 1) := by
  rw [rd_T29, Int.toNat_natCast, List.getD_eq_getElem?_getD, List.getElem?_eq_getElem h]
  exact List.drop_eq_getElem_cons h
theorem rd29_mem (l : List S29) (i : Nat) (h : i < l.length) : rd_T29 l (i : Int) ∈ l := by
  rw [rd_T29, Int.toNat_natCast, List.getD_eq_getElem?_getD, List.getElem?_eq_getElem h]
  exact List.getElem_mem h
theorem putF_form (m : S29) (h : msgRight m = true) : frame_Put.f (msgForm m) = some (putF (msgForm m), 0) ∧ (putF (msgForm m)).length ≤ 57 := by
  have hl := (msgForm_length m h).1
  refine ⟨?_, ?_⟩
  · unfold frame_Put.f
    rw [if_pos (by omega)]
    rfl
  · rw [putF_length]; omega
theorem stream_l0 (l : List S29) (h : ∀ m ∈ l, i64B m.f6 = true ∧ i64B m.f7 = true) (hl : l.length ≤ 60) : ∀ (j i : Nat) (acc : List Int), i + j = l.length → acc.length ≤ i * 57 → ∀ k, j + 1 ≤ k →
    message_Stream.l0 k acc l (l.length : Int) (i : Int) = some (strm (l.drop i) acc) := by
  intro j
  induction j with
  | zero =>
    intro i acc hi ha k hk
    obtain ⟨k, rfl⟩ : ∃ k', k = k' + 1 := ⟨k - 1, by omega⟩
    rw [message_Stream.l0, if_neg (by omega), List.drop_eq_nil_of_le (by omega)]
    rfl
  | succ j ih =>
    intro i acc hi ha k hk
    obtain ⟨k, rfl⟩ : ∃ k', k = k' + 1 := ⟨k - 1, by omega⟩
    have hm := h _ (rd29_mem l i (by omega))
    rw [message_Stream.l0, if_pos (by omega), if_pos (by omega), if_pos (by omega), msgEncode_f _ hm.1 hm.2, rd29_drop l i (by omega)]
    by_cases hr : msgRight (rd_T29 l (i : Int)) = true
    · obtain ⟨hp, hq⟩ := putF_form _ hr
      rw [if_pos hr, strm, if_pos hr]
      simp only [Option.bind_some, if_pos, hp]
      rw [if_pos (by omega), wrap_succ i (by omega)]
      exact ih (i + 1) _ (by omega) (by rw [List.length_append]; omega) k (by omega)
    · rw [if_neg hr, strm, if_neg hr]
      rfl
theorem lists_l0 (x : List S29) (hl : x.length ≤ 1000000) : ∀ (j i : Nat), i + j = x.length → ∀ k, j + 1 ≤ k → damperref06_Lists.l0 k x x (i : Int) = some true := by
  intro j
  induction j with
  | zero =>
    intro i hi k hk
    obtain ⟨k, rfl⟩ : ∃ k', k = k' + 1 := ⟨k - 1, by omega⟩
    rw [damperref06_Lists.l0, if_neg (by omega)]
  | succ j ih =>
    intro i hi k hk
    obtain ⟨k, rfl⟩ : ∃ k', k = k' + 1 := ⟨k - 1, by omega⟩
    rw [damperref06_Lists.l0, if_pos (by omega), if_pos (by omega), if_pos (by omega), if_neg (by simp), wrap_succ i (by omega)]
    exact ih (i + 1) (by omega) k (by omega)
theorem lists_refl (x : List S29) (hl : x.length ≤ 1000000) (k : Nat) (hk : x.length + 1 ≤ k) : damperref06_Lists.f k x x = some true := by
  unfold damperref06_Lists.f
  rw [if_pos rfl]
  exact lists_l0 x hl x.length 0 (by omega) k hk
theorem msgAll_length (l : List Int) (hb : Byt l) : (msgAll l).1.length ≤ l.length := by
  have h1 := frames_count l.length l (Nat.le_refl _) hb
  have h2 := frames_end l hb
  unfold msgAll
  split
  · simp
  · split
    · simp
    · rw [msgsOf_length]; omega
end Go.Proofs.Ytalpemoodollpaa.P
/- damperref03.ReadInt. -/
namespace Go.Proofs.Ytalpemoodollpaa.P
open Go.RowKit Go.Proofs.YtalpemoodollpaaW.PrintWords Go.Proofs.YtalpemoodollpaaW.PrintLast Go.Proofs.YtalpemoodollpaaW.PrintMore
set_option linter.unusedVariables false
set_option linter.unusedSimpArgs false
theorem R_far5 {W : World} {base b : Nat} {v : Value} {xs : List Int} (h : Kd.R (Kd.int .u8) 5 W base (fun _ => True) v xs) (hb : b < base) (n s z f : Int) (u : Value) : Kd.R (Kd.int .u8) 5 (((((W.setCell ⟨b, 0, none⟩ (.int .u64 n)).setCell ⟨b, 1, none⟩ (.int .i64 s)).setCell ⟨b, 2, none⟩ u).setCell ⟨b, 3, none⟩ (.int .i64 z)).setCell ⟨b, 4, none⟩ (.int .i64 f)) base (fun _ => True) v xs := by
  have h1 : Kd.R (Kd.int .u8) 5 W base (fun k => base ≤ k) v xs := Kd.R_mono (Kd.R_bound h) (fun k hk => hk.2.1)
  exact Kd.R_mono (Kd.R_far (Kd.R_far (Kd.R_far (Kd.R_far (Kd.R_far h1 (p := ⟨b, 0, none⟩) (fun k hk => by show k ≠ b; omega) (.int .u64 n)) (p := ⟨b, 1, none⟩) (fun k hk => by show k ≠ b; omega) (.int .i64 s)) (p := ⟨b, 2, none⟩) (fun k hk => by show k ≠ b; omega) u) (p := ⟨b, 3, none⟩) (fun k hk => by show k ≠ b; omega) (.int .i64 z)) (p := ⟨b, 4, none⟩) (fun k hk => by show k ≠ b; omega) (.int .i64 f)) (fun _ _ => trivial)
theorem below_far5 {w W : World} {b : Nat} (h : Below w.heap.size w W) (hb : w.heap.size ≤ b) (n s z f : Int) (u : Value) : Below w.heap.size w (((((W.setCell ⟨b, 0, none⟩ (.int .u64 n)).setCell ⟨b, 1, none⟩ (.int .i64 s)).setCell ⟨b, 2, none⟩ u).setCell ⟨b, 3, none⟩ (.int .i64 z)).setCell ⟨b, 4, none⟩ (.int .i64 f)) := (below_set (j := 4) (v := (.int .i64 f)) (below_set (j := 3) (v := (.int .i64 z)) (below_set (j := 2) (v := u) (below_set (j := 1) (v := (.int .i64 s)) (below_set (j := 0) (v := (.int .u64 n)) h hb) hb) hb) hb) hb)
def rdInt (l : List Int) : Int × Int × List Int × Int × Int := if l.length < 8 then (0, 0, [], 0, 3) else (0, unzig (beNum (l.take 8)), [], 8, 0)
set_option maxRecDepth 100000 in
set_option maxHeartbeats 2000000 in
theorem refReadInt_calls (A0 : Option Addr) (c0 : Nat) (l0 : List Int) (w : World) (hr0 : Kd.C (Kd.int .u8) w A0 l0.length l0) (hc0 : l0.length ≤ c0) (hb : Byt l0) :
    Calls Try.prog 114 #[.slice A0 l0.length c0] w fun e w' => ∃ v : Value, e = .returned (.agg #[.int .u64 0, .int .i64 (rdInt l0).2.1, v, .int .i64 (rdInt l0).2.2.2.1, .int .i64 (rdInt l0).2.2.2.2]) ∧ Kd.R (Kd.int .u8) 5 w' w.heap.size (fun _ => True) v [] ∧ Below w.heap.size w w' := by
  have hU := refReadUint l0 8 hb 12 (by omega)
  have HU : Aside0 (∃ n S z f : Int, rdInt l0 = (0, S, [], z, f) ∧ rdUint l0 8 = (n, 0, [], z, f) ∧ 0 ≤ n ∧ n < 18446744073709551616 ∧ S = unzig n) := ⟨by
    unfold rdInt rdUint
    rw [if_neg (show ¬ ((8 : Int) < 1 ∨ (8 : Int) < 8) by decide)]
    by_cases h : l0.length < 8
    · rw [if_pos h, if_pos (show (l0.length : Int) < 8 by omega)]
      exact ⟨0, 0, 0, 3, rfl, rfl, by omega, by omega, by decide⟩
    · rw [if_neg h, if_neg (show ¬ (l0.length : Int) < 8 by omega)]
      have hrg := beNum_range (l0.take 8) (hb.take 8)
      rw [show (l0.take 8).length = 8 by rw [List.length_take]; omega] at hrg
      have h2 : ((256 ^ 8 : Nat) : Int) = 18446744073709551616 := by decide
      rw [h2] at hrg
      exact ⟨_, _, _, _, rfl, rfl, hrg.1, hrg.2, rfl⟩⟩
  obtain ⟨n, S, z, f, hI, hN, h0, h1, hS⟩ := HU.out
  rw [hN] at hU
  rw [hI]
  have HX := Aside0.mk hU
  have HR := Aside0.mk hr0
  have HC := Aside0.mk hc0
  have HNN := Aside0.mk (And.intro h0 h1)
  have HS := Aside0.mk hS
  clear hU hI hN HU hr0 hc0 hb h0 h1 hS
  have HB0 := Aside0.mk (show Box5 (w.alloc (.cells #[.int .u64 0, .int .i64 0, .slice none 0 0, .int .i64 0, .int .i64 0] 81)) w.heap.size 0 0 (.slice none 0 0) 0 0 from blk_new w _)
  have HR1 := Aside0.mk (Kd.C_alloc HR.out (.cells #[.int .u64 0, .int .i64 0, .slice none 0 0, .int .i64 0, .int .i64 0] 81))
  have HL0 := Aside0.mk (below_alloc (Below.refl w.heap.size w) (.cells #[.int .u64 0, .int .i64 0, .slice none 0 0, .int .i64 0, .int .i64 0] 81))
  have hX := damperref03_ReadUint.calls 12 A0 c0 l0 8 n 0 [] z f _ HR1.out HC.out HX.out
  go_enter Try.func114, Try.ntmps114
  go_wp2_with fail
  refine hX.mono ?_
  rintro e w1 ⟨v, rfl, hR, hbl⟩
  obtain ⟨A, c, rfl⟩ := Kd.R_slice hR
  have HB1 : Aside0 (Box5 w1 w.heap.size 0 0 (.slice none 0 0) 0 0) := ⟨(hbl.block _ (blk_lt HB0.out)).trans HB0.out⟩
  have HRR := Aside0.mk hR
  have HL1 := Aside0.mk (Below.trans HL0.out (Below.mono hbl HL0.out.size))
  clear hR hbl hX HB0 HR1 HL0
  have hb1 := fun o => (show Box5 (w1.alloc o) w.heap.size 0 0 (.slice none 0 0) 0 0 from blk_alloc HB1.out o)
  have d0 := fun o => (hb1 o).cells.1
  have d1 := fun o => (hb1 o).cells.2.1
  have d2 := fun o => (hb1 o).cells.2.2.1
  have d3 := fun o => (hb1 o).cells.2.2.2.1
  have d4 := fun o => (hb1 o).cells.2.2.2.2
  have y0 := fun o => blk_frozen (hb1 o) 0
  have y1 := fun o => blk_frozen (hb1 o) 1
  have y2 := fun o => blk_frozen (hb1 o) 2
  have y3 := fun o => blk_frozen (hb1 o) 3
  have y4 := fun o => blk_frozen (hb1 o) 4
  clear hb1
  have ht : Int.tmod n 2 = n % 2 := Int.tmod_eq_emod_of_nonneg HNN.out.1
  have hd : Int.tdiv n 2 = n / 2 := Int.tdiv_eq_ediv_of_nonneg HNN.out.1
  by_cases hev : n % 2 = 0
  · skip
    have hS : S = wrap64 (IntKind.u64.wrap (n / 2)) := by
      have h := HS.out
      unfold unzig at h
      rw [h]
      rw [if_pos hev, wrap_u64, wrap64_eq]
      have := HNN.out
      omega
    have hsz : (w.alloc (.cells #[.int .u64 0, .int .i64 0, .slice none 0 0, .int .i64 0, .int .i64 0] 81)).heap.size = w.heap.size + 1 := World.size_alloc _ _
    have HBX := Aside0.mk (show Box5 (w1.alloc (.cells #[.int .u64 0, .int .i64 (wrap64 (IntKind.u64.wrap (n / 2))), .slice A ([] : List Int).length c, .int .i64 z, .int .i64 f] 81)) w.heap.size 0 0 (.slice none 0 0) 0 0 from blk_alloc HB1.out _)
    have HBY := Aside0.mk (HBX.out.set5 0 (wrap64 (IntKind.u64.wrap (n / 2))) z f (.slice A ([] : List Int).length c))
    have HRY := Aside0.mk (R_far5 (Kd.R_alloc HRR.out (.cells #[.int .u64 0, .int .i64 (wrap64 (IntKind.u64.wrap (n / 2))), .slice A ([] : List Int).length c, .int .i64 z, .int .i64 f] 81)) (b := w.heap.size) (by omega) 0 (wrap64 (IntKind.u64.wrap (n / 2))) z f (.slice A ([] : List Int).length c))
    have HLY := Aside0.mk (below_far5 (below_alloc HL1.out (.cells #[.int .u64 0, .int .i64 (wrap64 (IntKind.u64.wrap (n / 2))), .slice A ([] : List Int).length c, .int .i64 z, .int .i64 f] 81)) (Nat.le_refl w.heap.size) 0 (wrap64 (IntKind.u64.wrap (n / 2))) z f (.slice A ([] : List Int).length c))
    have HSS := Aside0.mk hS
    clear hS hsz
    go_wp2
    refine bodyPost_ret (results_cell_row (fn := Try.f114) (p := 2) (ty := 81) rfl _ _ w.heap.size 81 #[.int .u64 0, .int .i64 (wrap64 (IntKind.u64.wrap (n / 2))), .slice A ([] : List Int).length c, .int .i64 z, .int .i64 f] (0, 0) _ rfl HBY.out Try.underlying81 rfl (by kernel_rfl)) rfl ?_
    refine ⟨_, by rw [HSS.out], Kd.R_lower HRY.out (by rw [World.size_alloc]; omega), HLY.out⟩
  · skip
    have hS : S = wrap64 (wrap64 (-wrap64 (IntKind.u64.wrap (n / 2))) - 1) := by
      have h := HS.out
      unfold unzig at h
      rw [h]
      rw [if_neg hev, wrap_u64, wrap64_eq, wrap64_eq, wrap64_eq]
      have := HNN.out
      omega
    have hsz : (w.alloc (.cells #[.int .u64 0, .int .i64 0, .slice none 0 0, .int .i64 0, .int .i64 0] 81)).heap.size = w.heap.size + 1 := World.size_alloc _ _
    have HBX := Aside0.mk (show Box5 (w1.alloc (.cells #[.int .u64 0, .int .i64 (wrap64 (wrap64 (-wrap64 (IntKind.u64.wrap (n / 2))) - 1)), .slice A ([] : List Int).length c, .int .i64 z, .int .i64 f] 81)) w.heap.size 0 0 (.slice none 0 0) 0 0 from blk_alloc HB1.out _)
    have HBY := Aside0.mk (HBX.out.set5 0 (wrap64 (wrap64 (-wrap64 (IntKind.u64.wrap (n / 2))) - 1)) z f (.slice A ([] : List Int).length c))
    have HRY := Aside0.mk (R_far5 (Kd.R_alloc HRR.out (.cells #[.int .u64 0, .int .i64 (wrap64 (wrap64 (-wrap64 (IntKind.u64.wrap (n / 2))) - 1)), .slice A ([] : List Int).length c, .int .i64 z, .int .i64 f] 81)) (b := w.heap.size) (by omega) 0 (wrap64 (wrap64 (-wrap64 (IntKind.u64.wrap (n / 2))) - 1)) z f (.slice A ([] : List Int).length c))
    have HLY := Aside0.mk (below_far5 (below_alloc HL1.out (.cells #[.int .u64 0, .int .i64 (wrap64 (wrap64 (-wrap64 (IntKind.u64.wrap (n / 2))) - 1)), .slice A ([] : List Int).length c, .int .i64 z, .int .i64 f] 81)) (Nat.le_refl w.heap.size) 0 (wrap64 (wrap64 (-wrap64 (IntKind.u64.wrap (n / 2))) - 1)) z f (.slice A ([] : List Int).length c))
    have HSS := Aside0.mk hS
    clear hS hsz
    go_wp2
    refine bodyPost_ret (results_cell_row (fn := Try.f114) (p := 2) (ty := 81) rfl _ _ w.heap.size 81 #[.int .u64 0, .int .i64 (wrap64 (wrap64 (-wrap64 (IntKind.u64.wrap (n / 2))) - 1)), .slice A ([] : List Int).length c, .int .i64 z, .int .i64 f] (0, 0) _ rfl HBY.out Try.underlying81 rfl (by kernel_rfl)) rfl ?_
    refine ⟨_, by rw [HSS.out], Kd.R_lower HRY.out (by rw [World.size_alloc]; omega), HLY.out⟩
end Go.Proofs.Ytalpemoodollpaa.P
