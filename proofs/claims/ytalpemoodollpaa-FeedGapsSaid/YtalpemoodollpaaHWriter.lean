/- The contracts of octets.Writer's methods. -/
import Derived.Test.YtalpemoodollpaaHBase
import Derived.Test.YtalpemoodollpaaHBits
import Derived.Deep.RegionLaw
namespace Go.Proofs.Ytalpemoodollpaa.P
open Go.RowKit Go.Proofs.YtalpemoodollpaaW.PrintWords Go.Proofs.YtalpemoodollpaaW.PrintLast Go.Proofs.YtalpemoodollpaaW.PrintMore
set_option linter.unusedVariables false
set_option linter.unusedSimpArgs false

set_option maxRecDepth 100000 in
set_option maxHeartbeats 400000 in
theorem octets_Writer_Num.calls (g : Nat) (row : Option Nat) (xs : List Int) (n : Int) (w : World) (h0 : 0 ≤ n) (hw : WS w g row xs) (hl : xs.length + (numForm n.toNat).length ≤ 140737488355328) :
    Calls Try.prog 36 #[.pointer (some ⟨g, 0, none⟩), .int .u64 n] w fun e w' => e = .returned (.pointer (some ⟨g, 0, none⟩)) ∧ WPost w g row (xs ++ numForm n.toNat) w' := by
  have HW := Aside0.mk hw
  have HL := Aside0.mk hl
  clear hw hl
  go_enter Try.func36, Try.ntmps36
  go_wp2
  go_loopw [1] (fun n1 wr => ∃ (m : Int) (ys : List Int) (v : Value), n1 = .int .u64 m ∧ 0 ≤ m ∧ Aside0 (ys ++ numForm m.toNat = xs ++ numForm n.toNat) ∧ WIn w wr g row ys v) (fun n1 _ => (intOf n1).toNat)
  case atStart => obtain ⟨v, hv⟩ := WIn.start HW.out; exact ⟨n, xs, v, rfl, h0, ⟨rfl⟩, hv⟩
  case round =>
    obtain ⟨m, ys, v', rfl, hm0, HE, HI⟩ := hrel
    have hc0 := HI.cell
    have hf0 := HI.frozen
    have hlen : ys.length + 1 ≤ 140737488355328 := by
      have h1 := congrArg List.length HE.out
      have h2 := HL.out
      have h3 : 1 ≤ (numForm m.toNat).length := by rw [numForm]; split <;> simp
      simp only [List.length_append] at h1
      omega
    by_cases hc : 128 ≤ m
    · go_wp2_with (at_builtin; refine HI.append rfl (.tmp 15) (.tmp 19) (bits BinOp.or IntKind.u8 (m % 256) 128) rfl rfl rfl hlen ?_; intro A1 n1 c1 w1 HS hc1 hf1; have hc1 := hc1.out)
      go_roundw
      case rel => exact ⟨m / 128, _, _, rfl, by omega, ⟨by rw [← HE.out, numForm_big hc, or128 m hm0, List.append_assoc]; rfl⟩, HS⟩
      case measure => simp [intOf]; omega
    · have hc' : m < 128 := by omega
      go_wp2_with (at_builtin; refine HI.append rfl (.tmp 27) (.tmp 30) m rfl rfl rfl hlen ?_; intro A1 n1 c1 w1 HS hc1 hf1; have hc1 := hc1.out)
      go_ret
      exact ⟨rfl, by rw [← HE.out, numForm_small hm0 hc']; exact HS.post⟩

theorem uint_byte (n i : Int) (h0 : 0 ≤ n) (hi : 0 ≤ i) : uintForm n.toNat (i + 1).toNat = (n / 2 ^ (8 * i).toNat % 256) :: uintForm n.toNat i.toNat := by
  obtain ⟨k, rfl⟩ := Int.eq_ofNat_of_zero_le hi
  obtain ⟨m, rfl⟩ := Int.eq_ofNat_of_zero_le h0
  have e1 : ((k : Int) + 1).toNat = k + 1 := by omega
  have e2 : (8 * (k : Int)).toNat = 8 * k := by omega
  rw [e1, e2]
  simp only [Int.toNat_natCast, uintForm]
  congr 1
  have e3 : (256 : Nat) ^ k = 2 ^ (8 * k) := by rw [Nat.pow_mul]
  rw [e3, Int.natCast_emod, Int.natCast_ediv, Int.natCast_pow]
  rfl

set_option maxRecDepth 100000 in
set_option maxHeartbeats 400000 in
theorem octets_Writer_Uint.calls (g : Nat) (row : Option Nat) (xs : List Int) (n k : Int) (w : World) (h0 : 0 ≤ n) (hw : WS w g row xs) (hk0 : 1 ≤ k) (hk1 : k ≤ 8) (hl : xs.length + 8 ≤ 140737488355328) :
    Calls Try.prog 99 #[.pointer (some ⟨g, 0, none⟩), .int .u64 n, .int .i64 k] w fun e w' => e = .returned (.pointer (some ⟨g, 0, none⟩)) ∧ WPost w g row (xs ++ uintForm n.toNat k.toNat) w' := by
  have HW := Aside0.mk hw
  have HL := Aside0.mk hl
  clear hw hl
  go_enter Try.func99, Try.ntmps99
  go_wp2
  go_loopw [7] (fun i1 wr => ∃ (i : Int) (ys : List Int) (v : Value), i1 = .int .i64 i ∧ -1 ≤ i ∧ i < k ∧ Aside0 (ys.length ≤ xs.length + (k - 1 - i).toNat) ∧ Aside0 (ys ++ uintForm n.toNat (i + 1).toNat = xs ++ uintForm n.toNat k.toNat) ∧ WIn w wr g row ys v) (fun i1 _ => (intOf i1 + 1).toNat)
  case atStart => obtain ⟨v, hv⟩ := WIn.start HW.out; exact ⟨k - 1, xs, v, rfl, by omega, by omega, ⟨by omega⟩, ⟨by rw [show k - 1 + 1 = k by omega]⟩, hv⟩
  case round =>
    obtain ⟨i, ys, v', rfl, hi0, hik, HLE, HE, HI⟩ := hrel
    have hc0 := HI.cell
    have hf0 := HI.frozen
    by_cases hc : 0 ≤ i
    · have hlen : ys.length + 1 ≤ 140737488355328 := by
        have h2 := HL.out
        have h3 := HLE.out
        omega
      have hs0 : 0 ≤ 8 * i := by omega
      have hs1 : 8 * i ≤ 64 := by omega
      have hs2 : IntKind.i64.wrap (8 * i) = 8 * i := IntWalk.i64_in _ (by omega)
      go_wp2_with fail
      have hca := fun o => (HI.alloc o).cell
      go_region_law (first | (refine HI.drew.append_step rfl (.tmp 29) (.tmp 35) (IntKind.u8.wrap (n / 2 ^ (8 * i).toNat)) rfl rfl rfl hlen ?_; intro A1 n1 c1 w1 HS hc1 hf1; have hc1 := hc1.out))
      all_goals
        clear hs2 hca
        go_wp2
        go_roundw
        case rel => exact ⟨i - 1, _, _, rfl, by omega, by omega, ⟨by have := HLE.out; simp only [List.length_append, List.length_singleton]; omega⟩, ⟨by rw [← HE.out, show i - 1 + 1 = i by omega, uint_byte n i h0 hc, List.append_assoc]; rfl⟩, HS⟩
        case measure => simp [intOf]; omega
    · have hi : i = -1 := by omega
      subst hi
      go_wp2
      go_ret
      exact ⟨rfl, by have h := HE.out; simp [uintForm] at h; rw [← h]; exact HI.post⟩

theorem octets_Writer_Uint.nil (n k : Int) (w : World) : Calls Try.prog 99 #[.pointer none, .int .u64 n, .int .i64 k] w fun e w' => e = .returned (.pointer none) ∧ w = w' := by
  go_enter Try.func99, Try.ntmps99
  go_wp2
  go_ret
  exact ⟨rfl, rfl⟩
theorem octets_Writer_Uint.none (g : Nat) (n k : Int) (w : World) (h : k < 1 ∨ 8 < k) : Calls Try.prog 99 #[.pointer (some ⟨g, 0, none⟩), .int .u64 n, .int .i64 k] w fun e w' => e = .returned (.pointer (some ⟨g, 0, none⟩)) ∧ w = w' := by
  by_cases h1 : k < 1
  · have h2 : ¬ 8 < k := by omega
    clear h
    go_enter Try.func99, Try.ntmps99
    go_wp2
    go_ret
    exact ⟨rfl, rfl⟩
  · have h2 : 8 < k := by omega
    clear h
    go_enter Try.func99, Try.ntmps99
    go_wp2
    go_ret
    exact ⟨rfl, rfl⟩
theorem octets_Writer_Num.nil (n : Int) (w : World) : Calls Try.prog 36 #[.pointer none, .int .u64 n] w fun e w' => e = .returned (.pointer none) ∧ w = w' := by
  go_enter Try.func36, Try.ntmps36
  go_wp2
  go_ret
  exact ⟨rfl, rfl⟩
/-- The bytes of a number with a sign. -/
def intForm (n : Int) : List Int := uintForm (zig n).toNat 8
theorem intForm_length (n : Int) : (intForm n).length = 8 := uintForm_length _ _
set_option maxRecDepth 100000 in
theorem octets_Writer_Int.calls (g : Nat) (row : Option Nat) (xs : List Int) (n : Int) (w : World) (h0 : -9223372036854775808 ≤ n) (h1 : n ≤ 9223372036854775807) (hw : WS w g row xs) (hl : xs.length + 8 ≤ 140737488355328) :
    Calls Try.prog 38 #[.pointer (some ⟨g, 0, none⟩), .int .i64 n] w fun e w' => e = .returned (.pointer (some ⟨g, 0, none⟩)) ∧ WPost w g row (xs ++ intForm n) w' := by
  have HZ := Aside0.mk (zig_bits n h0 h1)
  have HR := Aside0.mk (zig_range n h0 h1)
  clear h0 h1
  go_enter Try.func38, Try.ntmps38
  go_wp2_with fail
  rw [HZ.out]
  refine (octets_Writer_Uint.calls g row xs (zig n) 8 w HR.out.1 hw (by decide) (by decide) hl).mono ?_
  rintro e w' ⟨rfl, hp⟩
  go_wp2
  go_ret
  exact ⟨rfl, hp⟩
theorem octets_Writer_Int.nil (n : Int) (w : World) : Calls Try.prog 38 #[.pointer none, .int .i64 n] w fun e w' => e = .returned (.pointer none) ∧ w = w' := by
  go_enter Try.func38, Try.ntmps38
  go_wp2_with fail
  refine (octets_Writer_Uint.nil _ 8 w).mono ?_
  rintro e w' ⟨rfl, rfl⟩
  go_wp2
  go_ret
  exact ⟨rfl, rfl⟩
set_option maxRecDepth 100000 in
theorem octets_Writer_Raw.calls (g : Nat) (row : Option Nat) (xs zs : List Int) (A : Option Addr) (c : Nat) (w : World) (hw : WS w g row xs) (hz : Kd.C (Kd.int .u8) w A zs.length zs) (hl : xs.length + zs.length ≤ 140737488355328) :
    Calls Try.prog 94 #[.pointer (some ⟨g, 0, none⟩), .slice A zs.length c] w fun e w' => e = .returned (.pointer (some ⟨g, 0, none⟩)) ∧ WPost w g row (xs ++ zs) w' := by
  have HZ : Aside0 (ReadsInt w .u8 A zs.length zs) := ⟨Kd.reads_of_C (d := (0 : Int)) hz⟩
  obtain ⟨v, HI⟩ := WIn.start hw
  clear hw hz
  have hc0 := HI.cell
  have hf0 := HI.frozen
  go_enter Try.func94, Try.ntmps94
  go_wp2_with (at_builtin; refine HI.append_row rfl (.tmp 11) (.tmp 12) rfl rfl rfl HZ.out hl ?_; intro A1 n1 c1 w1 HS hc1 hf1; have hc1 := hc1.out)
  go_ret
  exact ⟨rfl, HS.post⟩
theorem octets_Writer_Raw.nil (v : Value) (w : World) : Calls Try.prog 94 #[.pointer none, v] w fun e w' => e = .returned (.pointer none) ∧ w = w' := by
  go_enter Try.func94, Try.ntmps94
  go_wp2
  go_ret
  exact ⟨rfl, rfl⟩
set_option maxRecDepth 100000 in
theorem bytes_Clone.calls (A0 : Option Addr) (c0 : Nat) (l0 : List Int) (w : World) (hr0 : Kd.C (Kd.int .u8) w A0 l0.length l0) (hl : l0.length ≤ 140737488355328) :
    Calls Try.prog 98 #[.slice A0 l0.length c0] w fun e w' => ∃ v0_ : Value, e = .returned v0_ ∧ Kd.R (Kd.int .u8) 5 w' w.heap.size (fun _ => True) v0_ l0 ∧ Below w.heap.size w w' := by
  have HZ : Aside0 (Kd.C (Kd.int .u8) w A0 l0.length l0) := ⟨hr0⟩
  have kn := fun (w : World) (a : Option Addr) (n c : Nat) => Lib.run_eql_slice_nil (P := Try.prog) w 30 5 a n c 0 0 Try.underlying30
  clear hr0
  cases A0 with
  | none =>
    have h0 : l0 = [] := by
      rcases Nat.eq_zero_or_pos l0.length with h | h
      · exact List.eq_nil_of_length_eq_zero h
      · obtain ⟨ad, h, _⟩ := HZ.out.2.2 h
        cases h
    subst h0
    go_enter Try.func98, Try.ntmps98
    go_wp2
    go_ret
    exact ⟨_, rfl, Kd.R_nil _ _ _ _ _, Below.refl _ _⟩
  | some ad =>
    have HE : Aside0 (World.ownsRow (w.alloc (.cells #[] 5)) w.heap.size 5 1 (.slice (some ⟨w.heap.size, 0, none⟩) 0 0) 0 (nums .u8 [])) := ⟨own_lit w w.heap.size 5 .u8 [] (Nat.le_refl _) (by decide)⟩
    have HZ2 : Aside0 (ReadsInt (w.alloc (.cells #[] 5)) .u8 (some ad) l0.length l0) := ⟨Kd.reads_of_C (d := (0 : Int)) (Kd.C_below HZ.out (below_alloc (Below.refl _ _) _))⟩
    go_enter Try.func98, Try.ntmps98
    go_wp2_with (at_builtin; refine print_append_row (w0 := w) w.heap.size rfl (.tmp 5) (.tmp 6) 30 5 .u8 1 rfl Try.underlying30 info5 (by decide) (.slice (some ⟨w.heap.size, 0, none⟩) 0 0) [] l0 (some ad) l0.length c0 rfl rfl HE.out HZ2.out (below_alloc (Below.refl _ _) _) (by simp) (by simp; omega) ?_; intro v1 w1 hown hb _ _; have HOWN := Aside0.mk hown; have HB := Aside0.mk hb; obtain ⟨A1, c1, e1⟩ := own_slice hown; subst e1; clear hown hb)
    go_ret
    exact ⟨_, rfl, Kd.R_of_own HOWN.out (fun _ _ => trivial), HB.out⟩
set_option maxRecDepth 100000 in
theorem octets_Writer_Bytes.calls (g : Nat) (row : Option Nat) (xs : List Int) (w : World) (hw : WS w g row xs) (hl : xs.length ≤ 140737488355328) :
    Calls Try.prog 37 #[.pointer (some ⟨g, 0, none⟩)] w fun e w' => ∃ v0_ : Value, e = .returned v0_ ∧ Kd.R (Kd.int .u8) 5 w' w.heap.size (fun _ => True) v0_ xs ∧ Below w.heap.size w w' := by
  obtain ⟨v, HI⟩ := WIn.start hw
  clear hw
  have hR := Kd.R_of_own (h1 := fun _ => rfl) HI.ho (ok := fun _ => True) (fun _ _ => trivial)
  obtain ⟨A, c, rfl, _, hC⟩ := Kd.R_reads hR
  have HC := Aside0.mk hC
  clear hR hC
  have hc0 := HI.cell
  have hf0 := HI.frozen
  go_enter Try.func37, Try.ntmps37
  go_wp2_with fail
  refine (bytes_Clone.calls A c xs w HC.out hl).mono ?_
  rintro e w' ⟨v0, rfl, hR, hB⟩
  go_wp2
  go_ret
  exact ⟨_, rfl, hR, hB⟩
theorem octets_Writer_Bytes.nil (w : World) : Calls Try.prog 37 #[.pointer none] w fun e w' => e = .returned (.slice none 0 0) ∧ w = w' := by
  go_enter Try.func37, Try.ntmps37
  go_wp2
  go_ret
  exact ⟨rfl, rfl⟩
end Go.Proofs.Ytalpemoodollpaa.P
