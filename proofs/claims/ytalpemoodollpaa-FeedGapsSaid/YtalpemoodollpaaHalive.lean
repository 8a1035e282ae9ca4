/- The first chapter's example (octets): it holds. Bytes that are the same. -/
import Derived.Test.YtalpemoodollpaaHframe
import Derived.Test.YtalpemoodollpaaP31
namespace Go.Proofs.Ytalpemoodollpaa.P
open Go.RowKit Go.Proofs.YtalpemoodollpaaW.PrintWords Go.Proofs.YtalpemoodollpaaW.PrintLast Go.Proofs.YtalpemoodollpaaW.PrintMore
set_option linter.unusedVariables false
set_option linter.unusedSimpArgs false

theorem R_open {W : World} {base : Nat} {ok : Nat → Prop} {v : Value} {xs : List Int} (h : Kd.R (Kd.int .u8) 5 W base ok v xs) :
    ∃ A c, v = .slice A xs.length c ∧ xs.length ≤ c ∧ Kd.C (Kd.int .u8) W A xs.length xs ∧ ∀ k, A.map (·.block) = some k → base ≤ k ∧ k < W.heap.size := by
  obtain ⟨A, c, rfl, hl, hC⟩ := Kd.R_reads h
  have hb := Kd.R_bound h
  refine ⟨A, c, rfl, hl, hC, fun k hk => ?_⟩
  have := hb.1 k (by cases A <;> simp_all [Value.ownBlock])
  exact ⟨this.2.1, this.2.2.1⟩
theorem C_cell {W : World} {A : Option Addr} {xs : List Int} (h : Kd.C (Kd.int .u8) W A xs.length xs) (hp : 0 < xs.length) : ∃ ad, A = some ad ∧ ∀ j, j < xs.length → W.cell? (ad.add j) = some (.int .u8 (xs.getD j 0)) :=
  (Kd.reads_of_C (d := (0 : Int)) h).2.2 hp

def damperlaw03_alive.f : Option Bool := some true
set_option maxRecDepth 100000 in
set_option maxHeartbeats 1000000 in
theorem damperlaw03_alive.calls (r : Bool) (w : World) (h : damperlaw03_alive.f = some r) :
    Calls Try.prog 39 #[] w fun e w' => e = .returned (.bool r) ∧ Below w.heap.size w w' := by
  obtain rfl := Option.some.inj h
  clear h
  have HS := Aside0.mk (WS.new w)
  have HB0 := Aside0.mk (below_alloc (Below.refl w.heap.size w) (.cells #[.slice none 0 0] 39))
  go_enter Try.func39, Try.ntmps39
  go_wp2_with fail
  refine (octets_Writer_Num.calls w.heap.size none [] 300 _ (by decide) HS.out (by decide +kernel)).mono ?_
  rintro e w1 ⟨rfl, hp⟩
  obtain ⟨row1, hs1, hb1, hr1⟩ := WPost.below HB0.out (Nat.le_refl _) (fun k hk => by cases hk) hp
  have HS1 := Aside0.mk hs1
  have HB1 := Aside0.mk hb1
  have HR1 := Aside0.mk hr1
  clear hp hs1 hb1 hr1
  go_wp2_with fail
  refine (octets_Writer_Int.calls w.heap.size row1 _ (-1) w1 (by decide) (by decide) HS1.out (by decide +kernel)).mono ?_
  rintro e w2 ⟨rfl, hp⟩
  obtain ⟨row2, hs2, hb2, hr2⟩ := hp.below HB1.out (Nat.le_refl _) HR1.out
  have he : [] ++ numForm (300 : Int).toNat ++ intForm (-1) = [172, 2, 0, 0, 0, 0, 0, 0, 0, 1] := by decide +kernel
  rw [he] at hs2
  have HS2 := Aside0.mk hs2
  have HB2 := Aside0.mk hb2
  clear hp hs2 hb2 hr2 he
  go_wp2_with fail
  refine (octets_Writer_Bytes.calls w.heap.size row2 _ w2 HS2.out (by decide)).mono ?_
  rintro e w3 ⟨v, rfl, hR, hB⟩
  obtain ⟨A, c, rfl, hlc, hC, hk⟩ := R_open hR
  obtain ⟨ad, rfl, hcell⟩ := C_cell hC (by decide)
  have h0 : w3.cell? ad = some (.int .u8 172) := hcell 0 (by decide)
  have h1 : w3.cell? ⟨ad.block, ad.off + 1, none⟩ = some (.int .u8 2) := hcell 1 (by decide)
  have h9 : w3.cell? ⟨ad.block, ad.off + 9, none⟩ = some (.int .u8 1) := hcell 9 (by decide)
  have HC := Aside0.mk hC
  have HB3 := Aside0.mk (below_then HB2.out HB2.out.size hB)
  clear hR hB hC hk hcell
  go_wp2_with fail
  refine (octets_NewReader.calls (some ad) c [172, 2, 0, 0, 0, 0, 0, 0, 0, 1] w3 HC.out (by decide) (byt_of (by decide))).mono ?_
  rintro e w4 ⟨g, row, rfl, hs, hb, hg, _, _⟩
  have HN := octets_Reader_Num.calls g row ([172, 2, 0, 0, 0, 0, 0, 0, 0, 1], 0) w4 hs
  have he : rNum ([172, 2, 0, 0, 0, 0, 0, 0, 0, 1], 0) = (300, ([0, 0, 0, 0, 0, 0, 0, 1], 0)) := by decide +kernel
  rw [he] at HN
  have HN2 := Aside0.mk HN
  have HB4 := Aside0.mk (below_then HB3.out HB3.out.size hb)
  have HG := Aside0.mk (Nat.le_trans HB3.out.size hg)
  clear hs hb hg he HN
  go_wp2_with fail
  refine HN2.out.mono ?_
  rintro e w5 ⟨rfl, hp⟩
  have HB5 := Aside0.mk (HB4.out.trans (hp.2.below HB4.out.size (fun k hk => by rw [hk]; exact HG.out)))
  clear hp
  go_wp2
  go_ret
  exact ⟨rfl, HB5.out⟩

theorem strOfNums_inj {a b : List Int} (ha : Byt a) (hb : Byt b) (h : (strOfNums a).toList = (strOfNums b).toList) : a = b := by
  rw [ByteArray.toList_eq, ByteArray.toList_eq, strOfNums_data, strOfNums_data] at h
  have key : ∀ (a b : List Int), Byt a → Byt b → (a.map fun n => UInt8.ofNat n.toNat) = (b.map fun n => UInt8.ofNat n.toNat) → a = b := by
    intro a
    induction a with
    | nil => intro b _ _ h; cases b with
      | nil => rfl
      | cons y b => simp at h
    | cons x a ih => intro b ha hb h; cases b with
      | nil => simp at h
      | cons y b =>
        simp only [List.map_cons, List.cons.injEq] at h
        have h1 := congrArg UInt8.toNat h.1
        simp only [UInt8.toNat_ofNat'] at h1
        have hx := ha.cons.1
        have hy := hb.cons.1
        have : x = y := by omega
        rw [this, ih b ha.cons.2 hb.cons.2 h.2]
  exact key a b ha hb h
theorem same_f (a b : List Int) (ha : Byt a) (hb : Byt b) : damperref03_Same.f a b = some (decide (a = b)) := by
  unfold damperref03_Same.f
  congr 1
  by_cases h : a = b
  · subst h; simp
  · simp only [h, decide_false, beq_eq_false_iff_ne]
    exact fun e => h (strOfNums_inj ha hb e)
theorem same_calls (A0 : Option Addr) (c0 : Nat) (l0 : List Int) (A1 : Option Addr) (c1 : Nat) (l1 : List Int) (w : World) (hr0 : Kd.C (Kd.int .u8) w A0 l0.length l0) (hc0 : l0.length ≤ c0) (hr1 : Kd.C (Kd.int .u8) w A1 l1.length l1) (hc1 : l1.length ≤ c1) (ha : Byt l0) (hb : Byt l1) :
    Calls Try.prog 31 #[.slice A0 l0.length c0, .slice A1 l1.length c1] w fun e w' => e = .returned (.bool (decide (l0 = l1))) ∧ Drawn0 w w' :=
  damperref03_Same.calls A0 c0 l0 A1 c1 l1 _ w hr0 hc0 hr1 hc1 (same_f l0 l1 ha hb)
end Go.Proofs.Ytalpemoodollpaa.P
