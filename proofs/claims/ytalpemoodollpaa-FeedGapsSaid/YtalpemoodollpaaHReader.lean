/- The contracts of octets.Reader's methods. -/
import Derived.Test.YtalpemoodollpaaHWriter
namespace Go.Proofs.Ytalpemoodollpaa.P
open Go.RowKit Go.Proofs.YtalpemoodollpaaW.PrintWords Go.Proofs.YtalpemoodollpaaW.PrintLast Go.Proofs.YtalpemoodollpaaW.PrintMore
set_option linter.unusedVariables false
set_option linter.unusedSimpArgs false

/-- Bytes are bytes. -/
def Byt (bs : List Int) : Prop := ∀ b ∈ bs, 0 ≤ b ∧ b ≤ 255
theorem Byt.nil : Byt [] := fun b h => by cases h
theorem Byt.cons {b : Int} {bs : List Int} (h : Byt (b :: bs)) : (0 ≤ b ∧ b ≤ 255) ∧ Byt bs := ⟨h b List.mem_cons_self, fun x hx => h x (List.mem_cons_of_mem _ hx)⟩
theorem Byt.mk {b : Int} {bs : List Int} (h : 0 ≤ b ∧ b ≤ 255) (hs : Byt bs) : Byt (b :: bs) := fun x hx => by
  rcases List.mem_cons.1 hx with rfl | hx
  · exact h
  · exact hs x hx
theorem Byt.take {bs : List Int} (h : Byt bs) (n : Nat) : Byt (bs.take n) := fun b hb => h b (List.mem_of_mem_take hb)
theorem Byt.drop {bs : List Int} (h : Byt bs) (n : Nat) : Byt (bs.drop n) := fun b hb => h b (List.mem_of_mem_drop hb)
theorem Byt.append {bs cs : List Int} (h : Byt bs) (k : Byt cs) : Byt (bs ++ cs) := fun b hb => (List.mem_append.1 hb).elim (h b) (k b)

/-- An octets.Reader at block g: what is left, the fault; row: the block of its bytes. -/
def RS (W : World) (g : Nat) (row : Option Nat) (s : List Int × Int) : Prop :=
  ∃ A c, W.heap[g]? = some (.cells #[.slice A s.1.length c, .int .i64 s.2] 146 (0, 0)) ∧ s.1.length ≤ c ∧ Kd.C (Kd.int .u8) W A s.1.length s.1 ∧ A.map (·.block) = row ∧ row ≠ some g ∧ Byt s.1
/-- What a reader's method leaves. -/
def RPost (w : World) (g : Nat) (row : Option Nat) (s : List Int × Int) (w' : World) : Prop := RS w' g row s ∧ Fr w w' (fun k => k = g)

/-- A slice that is read, in a world that has kept its block. -/
theorem Fr.C {w w1 : World} {S : Nat → Prop} (h : Fr w w1 S) {A : Option Addr} {n : Nat} {xs : List Int} (hc : Kd.C (Kd.int .u8) w A n xs) (hn : ∀ k, A.map (·.block) = some k → ¬ S k) : Kd.C (Kd.int .u8) w1 A n xs := by
  refine Kd.C_of_reads (d := (0 : Int)) ?_
  have hc' := Kd.reads_of_C (d := (0 : Int)) hc
  refine ⟨hc'.1, hc'.2.1, fun hp => ?_⟩
  obtain ⟨ad, rfl, hcell⟩ := hc'.2.2 hp
  refine ⟨ad, rfl, fun j hj => ?_⟩
  have h1 := hcell j hj
  have hb : (ad.add j).block = ad.block := by unfold Addr.add; split <;> rfl
  have h2 := h.block ad.block (by rw [← hb]; exact World.block_lt_of_cell? w _ h1) (hn _ rfl)
  simp only [World.cell?, hb] at h1 ⊢
  rw [h2]
  exact h1
theorem RS.fr {w w1 : World} {S : Nat → Prop} {g : Nat} {row : Option Nat} {s : List Int × Int} (h : RS w g row s) (hf : Fr w w1 S) (hg : ¬ S g) (hr : ∀ k, row = some k → ¬ S k) : RS w1 g row s := by
  obtain ⟨A, c, hb, hl, hC, he, hne, hby⟩ := h
  exact ⟨A, c, hf.blk hb hg, hl, hf.C hC (fun k hk => hr k (by rw [← he]; exact hk)), he, hne, hby⟩
theorem RS.open_ {W : World} {g : Nat} {row : Option Nat} {s : List Int × Int} (h : RS W g row s) :
    ∃ A c, Aside0 (W.heap[g]? = some (.cells #[.slice A s.1.length c, .int .i64 s.2] 146 (0, 0))) ∧ Aside0 (Kd.C (Kd.int .u8) W A s.1.length s.1) ∧ Aside0 (A.map (·.block) = row) ∧ Aside0 (row ≠ some g) ∧ Aside0 (Byt s.1) ∧ s.1.length ≤ c ∧
      W.cell? ⟨g, 0, none⟩ = some (.slice A s.1.length c) ∧ W.cell? ⟨g, 1, none⟩ = some (.int .i64 s.2) ∧ W.frozen? ⟨g, 0, none⟩ = false ∧ W.frozen? ⟨g, 1, none⟩ = false := by
  obtain ⟨A, c, hb, hl, hC, he, hne, hby⟩ := h
  exact ⟨A, c, ⟨hb⟩, ⟨hC⟩, ⟨he⟩, ⟨hne⟩, ⟨hby⟩, hl, (blk_cell hb 0).trans rfl, (blk_cell hb 1).trans rfl, blk_frozen hb 0, blk_frozen hb 1⟩
theorem C_bound {w : World} {A : Option Addr} {n : Nat} {xs : List Int} (h : Kd.C (Kd.int .u8) w A n xs) : n ≤ 9223372036854775807 := h.2.1

/-- 'xs[m:]' of bytes: the block stays. -/
theorem cut_ (A : Option Addr) (n c m : Nat) (hm : m ≤ n) :
    ∃ A' : Option Addr, (∀ W : World, (Instr.slice 30 (.slice A n c) (some (.int .i64 (m : Int))) none none).run Try.prog W = .ok (.slice A' (n - m) (c - m)) W) ∧ A'.map (·.block) = A.map (·.block) ∧
      ∀ (w : World) (xs : List Int), n ≤ c → Kd.C (Kd.int .u8) w A n xs → Kd.C (Kd.int .u8) w A' (n - m) (xs.drop m) := by
  obtain ⟨i, hi, hzz⟩ := Option.map_eq_some_iff.1 info5
  simp only [Prod.mk.injEq] at hzz
  refine ⟨if c = m then A else A.map (·.add m), fun W => ?_, ?_, fun w xs hc h => ?_⟩
  · have hel : Try.prog.elem 30 = 5 := by simp [Program.elem, Try.underlying30]
    have hu : Try.prog.underlying 30 = some (.slice (Try.prog.elem 30)) := by rw [hel]; exact Try.underlying30
    rw [run_slice_l W 30 A n c hu .i64 (m : Int) (Int.natCast_nonneg _) (by omega), hel]
    simp [sizeOf, typeInfo, hi, hzz.2.1, sliced, Result.andThen]
  · split
    · rfl
    · cases A with
      | none => rfl
      | some ad => simp only [Option.map_some]; unfold Addr.add; split <;> rfl
  · have h2 : ReadsInt w .u8 A n xs := Kd.reads_of_C (d := (0 : Int)) h
    have h3 := h2.drop_ m hm hc
    exact Kd.C_of_reads (d := (0 : Int)) (h1 := fun _ => rfl) h3
theorem C_take {w : World} {A : Option Addr} {n : Nat} {xs : List Int} (h : Kd.C (Kd.int .u8) w A n xs) (m : Nat) (hm : m ≤ n) : Kd.C (Kd.int .u8) w A m (xs.take m) := by
  have h2 : ReadsInt w .u8 A n xs := Kd.reads_of_C (d := (0 : Int)) h
  have h3 := h2.take_ m hm
  exact Kd.C_of_reads (d := (0 : Int)) (h1 := fun _ => rfl) h3

/-- What take tells and leaves. -/
def rTake (s : List Int × Int) (n : Nat) : List Int × Bool × (List Int × Int) :=
  if s.2 ≠ 0 then ([], false, s) else if s.1.length < n then ([], false, (s.1, 3)) else (s.1.take n, true, (s.1.drop n, 0))

set_option maxRecDepth 100000 in
theorem octets_Reader_take.calls (g : Nat) (row : Option Nat) (s : List Int × Int) (n : Nat) (w : World) (hn : n ≤ 9223372036854775807) (hs : RS w g row s) :
    Calls Try.prog 132 #[.pointer (some ⟨g, 0, none⟩), .int .i64 (n : Int)] w fun e w' => ∃ A c, e = .returned (.tuple #[.slice A (rTake s n).1.length c, .bool (rTake s n).2.1]) ∧ Kd.C (Kd.int .u8) w' A (rTake s n).1.length (rTake s n).1 ∧ (rTake s n).1.length ≤ c ∧ Byt (rTake s n).1 ∧ RPost w g row (rTake s n).2.2 w' := by
  obtain ⟨bs, f⟩ := s
  obtain ⟨A, c, HB, HC, HE, HN, HY, hlc, hc0, hc1, hf0, hf1⟩ := hs.open_
  have HS := Aside0.mk hs
  have hbd := C_bound HC.out
  clear hs
  simp only at HB HC HY hlc hc0 hc1 hbd
  by_cases hf : f = 0
  · subst hf
    by_cases hlt : bs.length < n
    · have H : Aside0 (rTake (bs, 0) n = ([], false, (bs, 3))) := ⟨by simp [rTake, hlt]⟩
      go_enter Try.func132, Try.ntmps132
      go_wp2
      go_ret2
      rw [H.out]
      refine ⟨none, 0, rfl, Kd.C_nil _ _, Nat.le_refl _, Byt.nil, ⟨A, c, by simpa using blk_set HB.out 1 (.int .i64 3), hlc, ?_, HE.out, HN.out, HY.out⟩, (Fr.refl _ _).setCell _ _ (fun _ => rfl)⟩
      exact ((Fr.refl w (fun k => k = g)).setCell ⟨g, 1, none⟩ (.int .i64 3) (fun _ => rfl)).C HC.out (fun k hk => by rw [HE.out] at hk; intro e; subst e; exact HN.out hk)
    · have H : Aside0 (rTake (bs, 0) n = (bs.take n, true, (bs.drop n, 0))) := ⟨by simp [rTake, hlt]⟩
      obtain ⟨A', hcut, hA, hR⟩ := cut_ A bs.length c n (by omega)
      have HA := Aside0.mk hA
      have HR := Aside0.mk hR
      clear hA hR
      go_enter Try.func132, Try.ntmps132
      go_wp2
      go_ret2
      rw [H.out]
      have hfr : Fr w (w.setCell ⟨g, 0, none⟩ (.slice A' (bs.length - n) (c - n))) (fun k => k = g) := (Fr.refl _ _).setCell _ _ (fun _ => rfl)
      have hnr : ∀ k, row = some k → ¬ k = g := fun k hk e => by subst e; exact HN.out hk
      have hlt' : (bs.take n).length = n := by rw [List.length_take]; omega
      have hld : (bs.drop n).length = bs.length - n := List.length_drop
      refine ⟨A, c, by simp only [hlt']; rfl, hfr.C (by simp only [hlt']; exact C_take HC.out n (by omega)) (fun k hk => hnr k (by rw [← HE.out]; exact hk)), by simp only [hlt']; omega, HY.out.take n, ⟨A', c - n, ?_, by simp only [hld]; omega, ?_, by rw [HA.out]; exact HE.out, HN.out, HY.out.drop n⟩, hfr⟩
      · simp only [hld]
        simpa using blk_set HB.out 0 (.slice A' (bs.length - n) (c - n))
      · simp only [hld]
        exact hfr.C (HR.out w bs hlc HC.out) (fun k hk => hnr k (by rw [← HE.out, ← HA.out]; exact hk))
  · have H : Aside0 (rTake (bs, f) n = ([], false, (bs, f))) := ⟨by simp [rTake, hf]⟩
    have hf' : (f == 0) = false := by simpa using hf
    clear hf
    go_enter Try.func132, Try.ntmps132
    go_wp2
    go_ret2
    rw [H.out]
    exact ⟨none, 0, rfl, Kd.C_nil _ _, Nat.le_refl _, Byt.nil, HS.out, Fr.refl _ _⟩
theorem octets_Reader_take.nil (n : Int) (w : World) : Calls Try.prog 132 #[.pointer none, .int .i64 n] w fun e w' => e = .returned (.tuple #[.slice none 0 0, .bool false]) ∧ w = w' := by
  go_enter Try.func132, Try.ntmps132
  go_wp2
  go_ret2
  exact ⟨rfl, rfl⟩
set_option maxRecDepth 100000 in
theorem octets_Reader_Left.calls (g : Nat) (row : Option Nat) (s : List Int × Int) (w : World) (hs : RS w g row s) :
    Calls Try.prog 64 #[.pointer (some ⟨g, 0, none⟩)] w fun e w' => e = .returned (.int .i64 s.1.length) ∧ w = w' := by
  obtain ⟨A, c, HB, HC, HE, HN, HY, hlc, hc0, hc1, hf0, hf1⟩ := hs.open_
  clear hs
  go_enter Try.func64, Try.ntmps64
  go_wp2
  go_ret
  exact ⟨rfl, rfl⟩
theorem octets_Reader_Left.nil (w : World) : Calls Try.prog 64 #[.pointer none] w fun e w' => e = .returned (.int .i64 0) ∧ w = w' := by
  go_enter Try.func64, Try.ntmps64
  go_wp2
  go_ret
  exact ⟨rfl, rfl⟩
set_option maxRecDepth 100000 in
theorem octets_Reader_Fault.calls (g : Nat) (row : Option Nat) (s : List Int × Int) (w : World) (hs : RS w g row s) :
    Calls Try.prog 63 #[.pointer (some ⟨g, 0, none⟩)] w fun e w' => e = .returned (.int .i64 s.2) ∧ w = w' := by
  obtain ⟨A, c, HB, HC, HE, HN, HY, hlc, hc0, hc1, hf0, hf1⟩ := hs.open_
  clear hs
  go_enter Try.func63, Try.ntmps63
  go_wp2
  go_ret
  exact ⟨rfl, rfl⟩
theorem octets_Reader_Fault.nil (w : World) : Calls Try.prog 63 #[.pointer none] w fun e w' => e = .returned (.int .i64 3) ∧ w = w' := by
  go_enter Try.func63, Try.ntmps63
  go_wp2
  go_ret
  exact ⟨rfl, rfl⟩
set_option maxRecDepth 100000 in
theorem octets_Reader_bad.at_ (g : Nat) (row : Option Nat) (s : List Int × Int) (w : World) (hs : RS w g row s) :
    Calls Try.prog 133 #[.pointer (some ⟨g, 0, none⟩)] w fun e w' => e = .returned (.int .u64 0) ∧ RPost w g row (s.1, 4) w' := by
  obtain ⟨A, c, HB, HC, HE, HN, HY, hlc, hc0, hc1, hf0, hf1⟩ := hs.open_
  clear hs
  go_enter Try.func133, Try.ntmps133
  go_wp2
  go_ret
  refine ⟨rfl, ⟨A, c, by simpa using blk_set HB.out 1 (.int .i64 4), hlc, ?_, HE.out, HN.out, HY.out⟩, (Fr.refl _ _).setCell _ _ (fun _ => rfl)⟩
  exact ((Fr.refl w (fun k => k = g)).setCell ⟨g, 1, none⟩ (.int .i64 4) (fun _ => rfl)).C HC.out (fun k hk => by rw [HE.out] at hk; intro e; subst e; exact HN.out hk)
set_option maxRecDepth 100000 in
theorem octets_NewReader.calls (A : Option Addr) (c : Nat) (bs : List Int) (w : World) (hr : Kd.C (Kd.int .u8) w A bs.length bs) (hl : bs.length ≤ 140737488355328) (hb : Byt bs) :
    Calls Try.prog 60 #[.slice A bs.length c] w fun e w' => ∃ g row, e = .returned (.pointer (some ⟨g, 0, none⟩)) ∧ RS w' g row (bs, 0) ∧ Below w.heap.size w w' ∧ w.heap.size ≤ g ∧ g < w'.heap.size ∧ ∀ k, row = some k → w.heap.size ≤ k := by
  have HR := Aside0.mk hr
  have HY := Aside0.mk hb
  clear hr hb
  go_enter Try.func60, Try.ntmps60
  go_wp2_with fail
  refine (bytes_Clone.calls A c bs w HR.out hl).mono ?_
  rintro e w' ⟨v0, rfl, hR, hB⟩
  obtain ⟨A1, c1, rfl, hlc, hC⟩ := Kd.R_reads hR
  have hbase := Kd.R_bound hR
  have HC := Aside0.mk hC
  have HB := Aside0.mk hB
  have HBASE := Aside0.mk hbase.1
  clear hR hC hB hbase
  go_wp2
  go_ret
  refine ⟨w'.heap.size, _, rfl, ⟨A1, c1, ?_, hlc, Kd.C_below HC.out (below_alloc (Below.refl _ _) _), rfl, ?_, HY.out⟩, below_alloc HB.out _, HB.out.size, ?_, ?_⟩
  · exact blk_new w' _
  · intro e
    have := HBASE.out w'.heap.size (by cases A1 <;> simp_all [Value.ownBlock])
    omega
  · simp
  · intro k hk
    exact (HBASE.out k (by cases A1 <;> simp_all [Value.ownBlock])).2.1

/-- Bytes as a number, the greatest first. -/
def beNum (bs : List Int) : Int := bs.foldl (fun n b => n * 256 + b) 0
theorem beNum_snoc (bs : List Int) (b : Int) : beNum (bs ++ [b]) = beNum bs * 256 + b := by simp [beNum, List.foldl_append]
theorem beNum_from (bs : List Int) : ∀ a : Int, bs.foldl (fun n b => n * 256 + b) a = a * ((256 ^ bs.length : Nat) : Int) + beNum bs := by
  induction bs with
  | nil => intro a; simp [beNum]
  | cons b bs ih =>
    intro a
    have h1 := ih (a * 256 + b)
    have h2 := ih (0 * 256 + b)
    simp only [beNum, List.foldl_cons, List.length_cons] at *
    rw [h1, h2, Nat.pow_succ]
    generalize 256 ^ bs.length = q
    rw [Int.natCast_mul, Int.add_mul, Int.mul_assoc, Int.mul_comm (256 : Int) (q : Int)]
    have e : ((256 : Nat) : Int) = 256 := rfl
    rw [e, show (0 : Int) * 256 + b = b by omega]
    omega
theorem beNum_cons (b : Int) (bs : List Int) : beNum (b :: bs) = b * ((256 ^ bs.length : Nat) : Int) + beNum bs := by
  have := beNum_from bs (0 * 256 + b)
  simp only [beNum, List.foldl_cons] at *
  rw [this]
  simp
theorem beNum_range (bs : List Int) (h : Byt bs) : 0 ≤ beNum bs ∧ beNum bs < ((256 ^ bs.length : Nat) : Int) := by
  induction bs with
  | nil => exact ⟨by decide, by decide⟩
  | cons b bs ih =>
    have h1 := ih h.cons.2
    have h2 := h.cons.1
    rw [beNum_cons, List.length_cons, Nat.pow_succ]
    generalize 256 ^ bs.length = q at *
    have h3 : b * (q : Int) ≤ 255 * (q : Int) := Int.mul_le_mul_of_nonneg_right h2.2 (by omega)
    have h4 : 0 ≤ b * (q : Int) := Int.mul_nonneg h2.1 (by omega)
    rw [Int.natCast_mul]
    have e : ((256 : Nat) : Int) = 256 := rfl
    rw [e]
    omega
theorem beNum_seven (bs : List Int) (h : Byt bs) (hl : bs.length ≤ 7) : beNum bs < 72057594037927936 := by
  have h1 := (beNum_range bs h).2
  have h2 : 256 ^ bs.length ≤ 256 ^ 7 := Nat.pow_le_pow_right (by decide) hl
  have h3 : 256 ^ 7 = 72057594037927936 := by decide
  omega
def rUint (s : List Int × Int) (k : Int) : Int × (List Int × Int) :=
  if k < 1 ∨ 8 < k then (0, s) else (beNum (rTake s k.toNat).1, (rTake s k.toNat).2.2)
theorem or_low (n c : Int) (h0 : 0 ≤ n) (h1 : n < 72057594037927936) (h2 : 0 ≤ c) (h3 : c ≤ 255) : bits BinOp.or IntKind.u64 (IntKind.u64.wrap (n * 256)) c = n * 256 + c := by
  have e : IntKind.u64.wrap (n * 256) = n * 256 := by rw [wrap_u64]; omega
  rw [e, u64_or _ _ (by omega) (by omega) (by omega) (by omega)]
  have h4 : (n * 256).toNat = n.toNat <<< 8 := by rw [Nat.shiftLeft_eq]; omega
  rw [h4, ← Nat.shiftLeft_add_eq_or_of_lt (by omega : c.toNat < 2 ^ 8), Nat.shiftLeft_eq]
  omega
set_option maxRecDepth 100000 in
set_option maxHeartbeats 400000 in
theorem octets_Reader_Uint.calls (g : Nat) (row : Option Nat) (s : List Int × Int) (k : Int) (w : World) (hs : RS w g row s) :
    Calls Try.prog 104 #[.pointer (some ⟨g, 0, none⟩), .int .i64 k] w fun e w' => e = .returned (.int .u64 (rUint s k).1) ∧ RPost w g row (rUint s k).2 w' := by
  have HS := Aside0.mk hs
  clear hs
  by_cases h1 : k < 1
  · have H : Aside0 (rUint s k = (0, s)) := ⟨by simp [rUint, h1]⟩
    go_enter Try.func104, Try.ntmps104
    go_wp2
    go_ret
    rw [H.out]
    exact ⟨rfl, HS.out, Fr.refl _ _⟩
  by_cases h2 : 8 < k
  · have H : Aside0 (rUint s k = (0, s)) := ⟨by simp [rUint, h2]⟩
    go_enter Try.func104, Try.ntmps104
    go_wp2
    go_ret
    rw [H.out]
    exact ⟨rfl, HS.out, Fr.refl _ _⟩
  have H : Aside0 (rUint s k = (beNum (rTake s k.toNat).1, (rTake s k.toNat).2.2)) := ⟨by rw [rUint, if_neg (by omega)]⟩
  rw [H.out]
  clear H
  obtain ⟨m, rfl⟩ := Int.eq_ofNat_of_zero_le (show 0 ≤ k by omega)
  rw [Int.toNat_natCast]
  have hlen : (rTake s m).1.length ≤ 8 := by unfold rTake; split; simp; split; simp; simp only [List.length_take]; omega
  have HT := Aside0.mk (octets_Reader_take.calls g row s m w (by omega) HS.out)
  generalize rTake s m = T at *
  obtain ⟨xs, ok, st⟩ := T
  simp only at hlen HT ⊢
  go_enter Try.func104, Try.ntmps104
  go_wp2_with fail
  refine HT.out.mono ?_
  rintro e w' ⟨A, c, rfl, hC, hlc, hY, hP⟩
  have HC := Aside0.mk hC
  have HY := Aside0.mk hY
  have HP := Aside0.mk hP
  clear hC hY hP
  go_wp2
  go_loop [4, 8, 23] (fun n _ i => ∃ j : Nat, j ≤ xs.length ∧ i = .int .i64 j ∧ n = .int .u64 (beNum (xs.take j))) (fun _ _ i => xs.length - (intOf i).toNat)
  case atStart => exact ⟨0, Nat.zero_le _, rfl, rfl⟩
  case round =>
    obtain ⟨j, hj, rfl, rfl⟩ := hrel
    by_cases hlt : j < xs.length
    · obtain ⟨ad, rfl, hcell⟩ := (Kd.reads_of_C (d := (0 : Int)) HC.out).2.2 (by omega)
      have hcj : w'.cell? (ad.add j) = some (.int .u8 (xs.getD j 0)) := hcell j hlt
      clear hcell
      generalize hb : xs.getD j 0 = b at *
      have HB : Aside0 (xs.take (j + 1) = xs.take j ++ [b]) := ⟨by rw [List.take_succ_eq_append_getElem hlt, ← hb]; simp [List.getD_eq_getElem?_getD, hlt]⟩
      have hbr : 0 ≤ b ∧ b ≤ 255 := by rw [← hb]; exact HY.out _ (by simp [List.getD_eq_getElem?_getD, hlt])
      have HOR := Aside0.mk (or_low (beNum (xs.take j)) b (beNum_range (xs.take j) (HY.out.take j)).1 (beNum_seven (xs.take j) (HY.out.take j) (by rw [List.length_take]; omega)) hbr.1 hbr.2)
      have H0 := beNum_range (xs.take j) (HY.out.take j)
      have H00 := H0.1
      clear hb H0
      go_wp2
      go_round
      case rel => exact ⟨j + 1, by omega, by go_num, by rw [HOR.out, HB.out, beNum_snoc]⟩
      case measure => simp [intOf]; omega
    · have hj2 : j = xs.length := by omega
      subst hj2
      go_wp2
      go_ret
      exact ⟨rfl, HP.out⟩
end Go.Proofs.Ytalpemoodollpaa.P
