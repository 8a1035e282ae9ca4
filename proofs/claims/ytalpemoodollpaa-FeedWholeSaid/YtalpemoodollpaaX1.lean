/- Contracts and plain laws: P0, HBase, HBits, HWriter, HReader, HReader2, Hframe, P31, Halive, HForms, P101, P134, P102, P103, HRefNum, P106, P115, HRefRead, HRow. -/
import Derived.Test.YtalpemoodollpaaProg
import Derived.Below
import Derived.Deep.Draws
import Derived.Deep.AppendLies
import Derived.Maps.AppendAt
import Derived.OwnWalk
import Derived.Laws.BytesArg
import Derived.Laws.MakeOwn
import Derived.Laws.OwnMore
import Derived.Deep.OwnRows
import Derived.Tactics
import Derived.Lib.ConvBytes
import Derived.Laws.Slices
import Derived.WalkKit
import Derived.KernelRfl
import Derived.RowKit3
import Derived.Deep.LoopGhost
import Derived.Deep.QuietTactic
import Derived.BigQuiet
import Derived.WideLaws
import Derived.Deep.DeepCutAuto
import Derived.Deep.CutBlock
import Derived.Deep.RegionHeld3
import Derived.Laws.Rows
import Derived.Lib.AppendStr
import Derived.ArgAppend
import Derived.Laws.IdiomCopy
import Derived.OrdersHeld
import Derived.Laws.BitsLemmas
import Derived.RowKit
import Derived.Test.YtalpemoodollpaaWWords
import Derived.Test.YtalpemoodollpaaWLast
import Derived.Test.YtalpemoodollpaaWTab
import Derived.Test.YtalpemoodollpaaWFour
import Derived.Test.YtalpemoodollpaaWQPut
import Derived.Test.YtalpemoodollpaaWApart
import Derived.Test.YtalpemoodollpaaWArr
import Derived.Test.YtalpemoodollpaaWZeros
import Derived.Test.YtalpemoodollpaaWFoot
import Derived.Test.YtalpemoodollpaaWKept
import Derived.Test.YtalpemoodollpaaWShare
import Derived.Test.YtalpemoodollpaaWN
import Derived.Test.YtalpemoodollpaaWFootNe
import Derived.Test.YtalpemoodollpaaWAt
import Derived.Test.YtalpemoodollpaaWEqStruct
import Derived.Test.YtalpemoodollpaaWRepsOne
import Derived.Test.YtalpemoodollpaaWInv
import Derived.Test.YtalpemoodollpaaWInvWords
import Derived.Test.YtalpemoodollpaaWGuard
import Derived.Test.YtalpemoodollpaaWNEv
import Derived.Test.YtalpemoodollpaaWMore
import Derived.WalkSpells
import Derived.Laws.BitsAllLaws
import Derived.Laws.DeepNot64
import Derived.Deep.RegionLaw
import Derived.Test.YtalpemoodollpaaRows
import Derived.ProofKit
import Derived.OpenShut
import Derived.ShutString
import Derived.ChangeOld
import Derived.SizedLaws
-- Printed by hookprint.py (the session's own program, over the kit's print.py): checked by Lean like any text.
namespace Go.Proofs.Ytalpemoodollpaa.P
open Go.RowKit Go.Proofs.YtalpemoodollpaaW.PrintWords Go.Proofs.YtalpemoodollpaaW.PrintLast Go.Proofs.YtalpemoodollpaaW.PrintMore
attribute [local go_sem] max2_int min2_int max_two min_two max_three min_three max_four min_four   -- for this text's walks alone
set_option linter.unusedVariables false
set_option linter.unusedSimpArgs false



def errW : Option Int → Value
  | none => .nilIface
  | some c => .iface 0 (.int .i64 c)
theorem errW_none : errW none = .nilIface := rfl
theorem errW_some (c : Int) : errW (some c) = .iface 0 (.int .i64 c) := rfl

theorem info2 : (Try.prog.info? 2).map (fun i => (i.zero, i.size, i.bytes)) = some (some (.int .i64 0), 1, 8) := by kernel_rfl
theorem info5 : (Try.prog.info? 5).map (fun i => (i.zero, i.size, i.bytes)) = some (some (.int .u8 0), 1, 1) := by kernel_rfl
theorem info91 : (Try.prog.info? 91).map (fun i => (i.zero, i.size, i.bytes)) = some (some (.agg #[(.int .i64 0), (.int .i64 0), (.int .i64 0), (.slice none 0 0)]), 4, 48) := by kernel_rfl
-- the values' own types
/-! #### struct type 29 -/
structure S29 where
  f0 : Int
  f1 : Int
  f2 : Int
  f3 : Int
  f4 : Int
  f5 : Int
  f6 : Int
  f7 : Int
  f8 : Int
def z29 : S29 := ⟨(0 : Int), (0 : Int), (0 : Int), (0 : Int), (0 : Int), (0 : Int), (0 : Int), (0 : Int), (0 : Int)⟩
def k29 : Kd S29 := Kd.iso (Kd.pair (Kd.int .i64) (Kd.pair (Kd.int .i64) (Kd.pair (Kd.int .i64) (Kd.pair (Kd.int .i64) (Kd.pair (Kd.int .i64) (Kd.pair (Kd.int .i64) (Kd.pair (Kd.int .i64) (Kd.pair (Kd.int .i64) (Kd.int .i64))))))))) (fun x : S29 => (x.f0, x.f1, x.f2, x.f3, x.f4, x.f5, x.f6, x.f7, x.f8))
theorem k29_open {w : World} {x : S29} {cs : List Value} (h : k29.K w x cs) : cs = [.int .i64 x.f0, .int .i64 x.f1, .int .i64 x.f2, .int .i64 x.f3, .int .i64 x.f4, .int .i64 x.f5, .int .i64 x.f6, .int .i64 x.f7, .int .i64 x.f8] := by
  obtain ⟨_, _, rfl, rfl, ⟨_, _, rfl, rfl, ⟨_, _, rfl, rfl, ⟨_, _, rfl, rfl, ⟨_, _, rfl, rfl, ⟨_, _, rfl, rfl, ⟨_, _, rfl, rfl, ⟨_, _, rfl, rfl, rfl⟩⟩⟩⟩⟩⟩⟩⟩ := h
  exact rfl
theorem k29_openM {w : World} {base : Nat} {ok : Nat → Prop} {x : S29} {cs : List Value} (h : k29.M w base ok x cs) : cs = [.int .i64 x.f0, .int .i64 x.f1, .int .i64 x.f2, .int .i64 x.f3, .int .i64 x.f4, .int .i64 x.f5, .int .i64 x.f6, .int .i64 x.f7, .int .i64 x.f8] := by
  obtain ⟨_, _, rfl, rfl, ⟨_, _, rfl, rfl, ⟨_, _, rfl, rfl, ⟨_, _, rfl, rfl, ⟨_, _, rfl, rfl, ⟨_, _, rfl, rfl, ⟨_, _, rfl, rfl, ⟨_, _, rfl, rfl, rfl⟩⟩⟩⟩⟩⟩⟩⟩ := h
  exact rfl
theorem k29_mk (w : World) (x : S29)  : k29.K w x [.int .i64 x.f0, .int .i64 x.f1, .int .i64 x.f2, .int .i64 x.f3, .int .i64 x.f4, .int .i64 x.f5, .int .i64 x.f6, .int .i64 x.f7, .int .i64 x.f8] := ⟨[.int .i64 x.f0], [.int .i64 x.f1, .int .i64 x.f2, .int .i64 x.f3, .int .i64 x.f4, .int .i64 x.f5, .int .i64 x.f6, .int .i64 x.f7, .int .i64 x.f8], rfl, rfl, ⟨[.int .i64 x.f1], [.int .i64 x.f2, .int .i64 x.f3, .int .i64 x.f4, .int .i64 x.f5, .int .i64 x.f6, .int .i64 x.f7, .int .i64 x.f8], rfl, rfl, ⟨[.int .i64 x.f2], [.int .i64 x.f3, .int .i64 x.f4, .int .i64 x.f5, .int .i64 x.f6, .int .i64 x.f7, .int .i64 x.f8], rfl, rfl, ⟨[.int .i64 x.f3], [.int .i64 x.f4, .int .i64 x.f5, .int .i64 x.f6, .int .i64 x.f7, .int .i64 x.f8], rfl, rfl, ⟨[.int .i64 x.f4], [.int .i64 x.f5, .int .i64 x.f6, .int .i64 x.f7, .int .i64 x.f8], rfl, rfl, ⟨[.int .i64 x.f5], [.int .i64 x.f6, .int .i64 x.f7, .int .i64 x.f8], rfl, rfl, ⟨[.int .i64 x.f6], [.int .i64 x.f7, .int .i64 x.f8], rfl, rfl, ⟨[.int .i64 x.f7], [.int .i64 x.f8], rfl, rfl, rfl⟩⟩⟩⟩⟩⟩⟩⟩
theorem k29_mkM (w : World) (base : Nat) (ok : Nat → Prop) (x : S29)  : k29.M w base ok x [.int .i64 x.f0, .int .i64 x.f1, .int .i64 x.f2, .int .i64 x.f3, .int .i64 x.f4, .int .i64 x.f5, .int .i64 x.f6, .int .i64 x.f7, .int .i64 x.f8] := ⟨[.int .i64 x.f0], [.int .i64 x.f1, .int .i64 x.f2, .int .i64 x.f3, .int .i64 x.f4, .int .i64 x.f5, .int .i64 x.f6, .int .i64 x.f7, .int .i64 x.f8], rfl, rfl, ⟨[.int .i64 x.f1], [.int .i64 x.f2, .int .i64 x.f3, .int .i64 x.f4, .int .i64 x.f5, .int .i64 x.f6, .int .i64 x.f7, .int .i64 x.f8], rfl, rfl, ⟨[.int .i64 x.f2], [.int .i64 x.f3, .int .i64 x.f4, .int .i64 x.f5, .int .i64 x.f6, .int .i64 x.f7, .int .i64 x.f8], rfl, rfl, ⟨[.int .i64 x.f3], [.int .i64 x.f4, .int .i64 x.f5, .int .i64 x.f6, .int .i64 x.f7, .int .i64 x.f8], rfl, rfl, ⟨[.int .i64 x.f4], [.int .i64 x.f5, .int .i64 x.f6, .int .i64 x.f7, .int .i64 x.f8], rfl, rfl, ⟨[.int .i64 x.f5], [.int .i64 x.f6, .int .i64 x.f7, .int .i64 x.f8], rfl, rfl, ⟨[.int .i64 x.f6], [.int .i64 x.f7, .int .i64 x.f8], rfl, rfl, ⟨[.int .i64 x.f7], [.int .i64 x.f8], rfl, rfl, rfl⟩⟩⟩⟩⟩⟩⟩⟩
theorem k29_mkF (W : World) (ok : Nat → Prop) (x : S29) : Kd.FK k29 W ok x [.int .i64 x.f0, .int .i64 x.f1, .int .i64 x.f2, .int .i64 x.f3, .int .i64 x.f4, .int .i64 x.f5, .int .i64 x.f6, .int .i64 x.f7, .int .i64 x.f8] := fun W2 _ => k29_mk W2 x
def rd_T29 (xs : List S29) (i : Int) : S29 := xs.getD i.toNat z29
theorem at_T29 {w : World} {A : Option Addr} {n : Nat} {xs : List S29} (h : Kd.C k29 w A n xs) (i : Int) (h0 : 0 ≤ i) (h1 : i < n) : ∃ ad , A = some ad ∧ w.cell? (ad.add (i.toNat * 9)) = some (.int .i64 (rd_T29 xs i).f0) ∧ w.cell? ⟨(ad.add (i.toNat * 9)).block, (ad.add (i.toNat * 9)).off + 1, none⟩ = some (.int .i64 (rd_T29 xs i).f1) ∧ w.cell? ⟨(ad.add (i.toNat * 9)).block, (ad.add (i.toNat * 9)).off + 2, none⟩ = some (.int .i64 (rd_T29 xs i).f2) ∧ w.cell? ⟨(ad.add (i.toNat * 9)).block, (ad.add (i.toNat * 9)).off + 3, none⟩ = some (.int .i64 (rd_T29 xs i).f3) ∧ w.cell? ⟨(ad.add (i.toNat * 9)).block, (ad.add (i.toNat * 9)).off + 4, none⟩ = some (.int .i64 (rd_T29 xs i).f4) ∧ w.cell? ⟨(ad.add (i.toNat * 9)).block, (ad.add (i.toNat * 9)).off + 5, none⟩ = some (.int .i64 (rd_T29 xs i).f5) ∧ w.cell? ⟨(ad.add (i.toNat * 9)).block, (ad.add (i.toNat * 9)).off + 6, none⟩ = some (.int .i64 (rd_T29 xs i).f6) ∧ w.cell? ⟨(ad.add (i.toNat * 9)).block, (ad.add (i.toNat * 9)).off + 7, none⟩ = some (.int .i64 (rd_T29 xs i).f7) ∧ w.cell? ⟨(ad.add (i.toNat * 9)).block, (ad.add (i.toNat * 9)).off + 8, none⟩ = some (.int .i64 (rd_T29 xs i).f8) := by
  obtain ⟨ad, c, e, _, hK, hc0⟩ := Kd.C_get h z29 i h0 h1
  have hc : ∀ j u, c[j]? = some u → w.cell? (ad.add (i.toNat * 9 + j)) = some u := hc0
  obtain rfl := k29_open hK
  exact ⟨ad, e, hc 0 _ rfl, by rw [← add_field _ _ 1 (by omega)]; exact hc 1 _ rfl, by rw [← add_field _ _ 2 (by omega)]; exact hc 2 _ rfl, by rw [← add_field _ _ 3 (by omega)]; exact hc 3 _ rfl, by rw [← add_field _ _ 4 (by omega)]; exact hc 4 _ rfl, by rw [← add_field _ _ 5 (by omega)]; exact hc 5 _ rfl, by rw [← add_field _ _ 6 (by omega)]; exact hc 6 _ rfl, by rw [← add_field _ _ 7 (by omega)]; exact hc 7 _ rfl, by rw [← add_field _ _ 8 (by omega)]; exact hc 8 _ rfl⟩

def rd_L4 (xs : List (List Int)) (i : Int) : (List Int) := xs.getD i.toNat ([] : List Int)
theorem at_L4 {w : World} {A : Option Addr} {n : Nat} {xs : List (List Int)} (h : Kd.C (Kd.slice 5 (Kd.int .u8)) w A n xs) (i : Int) (h0 : 0 ≤ i) (h1 : i < n) : ∃ ad A0 c0, A = some ad ∧ w.cell? (ad.add i.toNat) = some (.slice A0 (rd_L4 xs i).length c0) ∧ (rd_L4 xs i).length ≤ c0 ∧ (Kd.int .u8).C w A0 (rd_L4 xs i).length (rd_L4 xs i) := by
  obtain ⟨ad, c, e, _, hK, hc0⟩ := Kd.C_get h ([] : List Int) i h0 h1
  have hc : ∀ j u, c[j]? = some u → w.cell? (ad.add (i.toNat * 1 + j)) = some u := hc0
  obtain ⟨A0, c0, rfl, l0, g0⟩ := hK
  exact ⟨ad, A0, c0, e, by have hq := hc 0 _ rfl; rwa [Nat.mul_one, Nat.add_zero] at hq, l0, g0⟩

/-! #### struct type 49 -/
structure S49 where
  f0 : Int
  f1 : Int
  f2 : Int
  f3 : Int
  f4 : (List Int)
def z49 : S49 := ⟨(0 : Int), (0 : Int), (0 : Int), (0 : Int), ([] : List Int)⟩
def k49 : Kd S49 := Kd.iso (Kd.pair (Kd.int .i64) (Kd.pair (Kd.int .i64) (Kd.pair (Kd.int .u64) (Kd.pair (Kd.int .i64) (Kd.slice 5 (Kd.int .u8)))))) (fun x : S49 => (x.f0, x.f1, x.f2, x.f3, x.f4))
theorem k49_open {w : World} {x : S49} {cs : List Value} (h : k49.K w x cs) : ∃ A4 c4, cs = [.int .i64 x.f0, .int .i64 x.f1, .int .u64 x.f2, .int .i64 x.f3, .slice A4 x.f4.length c4] ∧ x.f4.length ≤ c4 ∧ (Kd.int .u8).C w A4 x.f4.length x.f4 := by
  obtain ⟨_, _, rfl, rfl, ⟨_, _, rfl, rfl, ⟨_, _, rfl, rfl, ⟨_, _, rfl, rfl, ⟨A4, c4, rfl, l4, g4⟩⟩⟩⟩⟩ := h
  exact ⟨A4, c4, rfl, l4, g4⟩
theorem k49_openM {w : World} {base : Nat} {ok : Nat → Prop} {x : S49} {cs : List Value} (h : k49.M w base ok x cs) : ∃ v4, cs = [.int .i64 x.f0, .int .i64 x.f1, .int .u64 x.f2, .int .i64 x.f3, v4] ∧ (Kd.int .u8).R 5 w base ok v4 x.f4 := by
  obtain ⟨_, _, rfl, rfl, ⟨_, _, rfl, rfl, ⟨_, _, rfl, rfl, ⟨_, _, rfl, rfl, ⟨v4, rfl, g4⟩⟩⟩⟩⟩ := h
  exact ⟨v4, rfl, g4⟩
theorem k49_mk (w : World) (x : S49) {A4 : Option Addr} {c4 : Nat} (l4 : x.f4.length ≤ c4) (g4 : (Kd.int .u8).C w A4 x.f4.length x.f4) : k49.K w x [.int .i64 x.f0, .int .i64 x.f1, .int .u64 x.f2, .int .i64 x.f3, .slice A4 x.f4.length c4] := ⟨[.int .i64 x.f0], [.int .i64 x.f1, .int .u64 x.f2, .int .i64 x.f3, .slice A4 x.f4.length c4], rfl, rfl, ⟨[.int .i64 x.f1], [.int .u64 x.f2, .int .i64 x.f3, .slice A4 x.f4.length c4], rfl, rfl, ⟨[.int .u64 x.f2], [.int .i64 x.f3, .slice A4 x.f4.length c4], rfl, rfl, ⟨[.int .i64 x.f3], [.slice A4 x.f4.length c4], rfl, rfl, ⟨A4, c4, rfl, l4, g4⟩⟩⟩⟩⟩
theorem k49_mkM (w : World) (base : Nat) (ok : Nat → Prop) (x : S49) {v4 : Value} (g4 : (Kd.int .u8).R 5 w base ok v4 x.f4) : k49.M w base ok x [.int .i64 x.f0, .int .i64 x.f1, .int .u64 x.f2, .int .i64 x.f3, v4] := ⟨[.int .i64 x.f0], [.int .i64 x.f1, .int .u64 x.f2, .int .i64 x.f3, v4], rfl, rfl, ⟨[.int .i64 x.f1], [.int .u64 x.f2, .int .i64 x.f3, v4], rfl, rfl, ⟨[.int .u64 x.f2], [.int .i64 x.f3, v4], rfl, rfl, ⟨[.int .i64 x.f3], [v4], rfl, rfl, ⟨v4, rfl, g4⟩⟩⟩⟩⟩
theorem k49_openF {W : World} {ok : Nat → Prop} {x : S49} {cs : List Value} (h : Kd.FK k49 W ok x cs) : ∃ A4 c4, cs = [.int .i64 x.f0, .int .i64 x.f1, .int .u64 x.f2, .int .i64 x.f3, .slice A4 x.f4.length c4] ∧ x.f4.length ≤ c4 ∧ Kd.F (Kd.int .u8) W ok A4 x.f4.length x.f4 := by
  obtain ⟨A4, c4, rfl, l4, _⟩ := k49_open (Kd.FK_now h)
  exact ⟨A4, c4, rfl, l4, (fun W' hW => by obtain ⟨A4_, c4_, he, l4_, g4_⟩ := k49_open (h W' hW); injection (Option.some.inj (show some (Value.slice A4 x.f4.length c4) = some (Value.slice A4_ x.f4.length c4_) from congrArg (fun l => l[4]?) he)) with ha_ _ _; rw [ha_]; exact g4_)⟩
theorem k49_mkF (W : World) (ok : Nat → Prop) (x : S49) {A4 : Option Addr} {c4 : Nat} (l4 : x.f4.length ≤ c4) (g4 : Kd.F (Kd.int .u8) W ok A4 x.f4.length x.f4) : Kd.FK k49 W ok x [.int .i64 x.f0, .int .i64 x.f1, .int .u64 x.f2, .int .i64 x.f3, .slice A4 x.f4.length c4] := fun W2 hW => k49_mk W2 x l4 (g4 W2 hW)
def rd_T49 (xs : List S49) (i : Int) : S49 := xs.getD i.toNat z49
theorem at_T49 {w : World} {A : Option Addr} {n : Nat} {xs : List S49} (h : Kd.C k49 w A n xs) (i : Int) (h0 : 0 ≤ i) (h1 : i < n) : ∃ ad A4 c4, A = some ad ∧ w.cell? (ad.add (i.toNat * 5)) = some (.int .i64 (rd_T49 xs i).f0) ∧ w.cell? ⟨(ad.add (i.toNat * 5)).block, (ad.add (i.toNat * 5)).off + 1, none⟩ = some (.int .i64 (rd_T49 xs i).f1) ∧ w.cell? ⟨(ad.add (i.toNat * 5)).block, (ad.add (i.toNat * 5)).off + 2, none⟩ = some (.int .u64 (rd_T49 xs i).f2) ∧ w.cell? ⟨(ad.add (i.toNat * 5)).block, (ad.add (i.toNat * 5)).off + 3, none⟩ = some (.int .i64 (rd_T49 xs i).f3) ∧ w.cell? ⟨(ad.add (i.toNat * 5)).block, (ad.add (i.toNat * 5)).off + 4, none⟩ = some (.slice A4 (rd_T49 xs i).f4.length c4) ∧ (rd_T49 xs i).f4.length ≤ c4 ∧ (Kd.int .u8).C w A4 (rd_T49 xs i).f4.length (rd_T49 xs i).f4 := by
  obtain ⟨ad, c, e, _, hK, hc0⟩ := Kd.C_get h z49 i h0 h1
  have hc : ∀ j u, c[j]? = some u → w.cell? (ad.add (i.toNat * 5 + j)) = some u := hc0
  obtain ⟨A4, c4, rfl, l4, g4⟩ := k49_open hK
  exact ⟨ad, A4, c4, e, hc 0 _ rfl, by rw [← add_field _ _ 1 (by omega)]; exact hc 1 _ rfl, by rw [← add_field _ _ 2 (by omega)]; exact hc 2 _ rfl, by rw [← add_field _ _ 3 (by omega)]; exact hc 3 _ rfl, by rw [← add_field _ _ 4 (by omega)]; exact hc 4 _ rfl, l4, g4⟩

/-! #### struct type 91 -/
structure S91 where
  f0 : Int
  f1 : Int
  f2 : Int
  f3 : (List Int)
def z91 : S91 := ⟨(0 : Int), (0 : Int), (0 : Int), ([] : List Int)⟩
def k91 : Kd S91 := Kd.iso (Kd.pair (Kd.int .i64) (Kd.pair (Kd.int .i64) (Kd.pair (Kd.int .i64) (Kd.slice 5 (Kd.int .u8))))) (fun x : S91 => (x.f0, x.f1, x.f2, x.f3))
theorem k91_open {w : World} {x : S91} {cs : List Value} (h : k91.K w x cs) : ∃ A3 c3, cs = [.int .i64 x.f0, .int .i64 x.f1, .int .i64 x.f2, .slice A3 x.f3.length c3] ∧ x.f3.length ≤ c3 ∧ (Kd.int .u8).C w A3 x.f3.length x.f3 := by
  obtain ⟨_, _, rfl, rfl, ⟨_, _, rfl, rfl, ⟨_, _, rfl, rfl, ⟨A3, c3, rfl, l3, g3⟩⟩⟩⟩ := h
  exact ⟨A3, c3, rfl, l3, g3⟩
theorem k91_openM {w : World} {base : Nat} {ok : Nat → Prop} {x : S91} {cs : List Value} (h : k91.M w base ok x cs) : ∃ v3, cs = [.int .i64 x.f0, .int .i64 x.f1, .int .i64 x.f2, v3] ∧ (Kd.int .u8).R 5 w base ok v3 x.f3 := by
  obtain ⟨_, _, rfl, rfl, ⟨_, _, rfl, rfl, ⟨_, _, rfl, rfl, ⟨v3, rfl, g3⟩⟩⟩⟩ := h
  exact ⟨v3, rfl, g3⟩
theorem k91_mk (w : World) (x : S91) {A3 : Option Addr} {c3 : Nat} (l3 : x.f3.length ≤ c3) (g3 : (Kd.int .u8).C w A3 x.f3.length x.f3) : k91.K w x [.int .i64 x.f0, .int .i64 x.f1, .int .i64 x.f2, .slice A3 x.f3.length c3] := ⟨[.int .i64 x.f0], [.int .i64 x.f1, .int .i64 x.f2, .slice A3 x.f3.length c3], rfl, rfl, ⟨[.int .i64 x.f1], [.int .i64 x.f2, .slice A3 x.f3.length c3], rfl, rfl, ⟨[.int .i64 x.f2], [.slice A3 x.f3.length c3], rfl, rfl, ⟨A3, c3, rfl, l3, g3⟩⟩⟩⟩
theorem k91_mkM (w : World) (base : Nat) (ok : Nat → Prop) (x : S91) {v3 : Value} (g3 : (Kd.int .u8).R 5 w base ok v3 x.f3) : k91.M w base ok x [.int .i64 x.f0, .int .i64 x.f1, .int .i64 x.f2, v3] := ⟨[.int .i64 x.f0], [.int .i64 x.f1, .int .i64 x.f2, v3], rfl, rfl, ⟨[.int .i64 x.f1], [.int .i64 x.f2, v3], rfl, rfl, ⟨[.int .i64 x.f2], [v3], rfl, rfl, ⟨v3, rfl, g3⟩⟩⟩⟩
theorem k91_openF {W : World} {ok : Nat → Prop} {x : S91} {cs : List Value} (h : Kd.FK k91 W ok x cs) : ∃ A3 c3, cs = [.int .i64 x.f0, .int .i64 x.f1, .int .i64 x.f2, .slice A3 x.f3.length c3] ∧ x.f3.length ≤ c3 ∧ Kd.F (Kd.int .u8) W ok A3 x.f3.length x.f3 := by
  obtain ⟨A3, c3, rfl, l3, _⟩ := k91_open (Kd.FK_now h)
  exact ⟨A3, c3, rfl, l3, (fun W' hW => by obtain ⟨A3_, c3_, he, l3_, g3_⟩ := k91_open (h W' hW); injection (Option.some.inj (show some (Value.slice A3 x.f3.length c3) = some (Value.slice A3_ x.f3.length c3_) from congrArg (fun l => l[3]?) he)) with ha_ _ _; rw [ha_]; exact g3_)⟩
theorem k91_mkF (W : World) (ok : Nat → Prop) (x : S91) {A3 : Option Addr} {c3 : Nat} (l3 : x.f3.length ≤ c3) (g3 : Kd.F (Kd.int .u8) W ok A3 x.f3.length x.f3) : Kd.FK k91 W ok x [.int .i64 x.f0, .int .i64 x.f1, .int .i64 x.f2, .slice A3 x.f3.length c3] := fun W2 hW => k91_mk W2 x l3 (g3 W2 hW)
def rd_T91 (xs : List S91) (i : Int) : S91 := xs.getD i.toNat z91
theorem at_T91 {w : World} {A : Option Addr} {n : Nat} {xs : List S91} (h : Kd.C k91 w A n xs) (i : Int) (h0 : 0 ≤ i) (h1 : i < n) : ∃ ad A3 c3, A = some ad ∧ w.cell? (ad.add (i.toNat * 4)) = some (.int .i64 (rd_T91 xs i).f0) ∧ w.cell? ⟨(ad.add (i.toNat * 4)).block, (ad.add (i.toNat * 4)).off + 1, none⟩ = some (.int .i64 (rd_T91 xs i).f1) ∧ w.cell? ⟨(ad.add (i.toNat * 4)).block, (ad.add (i.toNat * 4)).off + 2, none⟩ = some (.int .i64 (rd_T91 xs i).f2) ∧ w.cell? ⟨(ad.add (i.toNat * 4)).block, (ad.add (i.toNat * 4)).off + 3, none⟩ = some (.slice A3 (rd_T91 xs i).f3.length c3) ∧ (rd_T91 xs i).f3.length ≤ c3 ∧ (Kd.int .u8).C w A3 (rd_T91 xs i).f3.length (rd_T91 xs i).f3 := by
  obtain ⟨ad, c, e, _, hK, hc0⟩ := Kd.C_get h z91 i h0 h1
  have hc : ∀ j u, c[j]? = some u → w.cell? (ad.add (i.toNat * 4 + j)) = some u := hc0
  obtain ⟨A3, c3, rfl, l3, g3⟩ := k91_open hK
  exact ⟨ad, A3, c3, e, hc 0 _ rfl, by rw [← add_field _ _ 1 (by omega)]; exact hc 1 _ rfl, by rw [← add_field _ _ 2 (by omega)]; exact hc 2 _ rfl, by rw [← add_field _ _ 3 (by omega)]; exact hc 3 _ rfl, l3, g3⟩

end Go.Proofs.Ytalpemoodollpaa.P
/- Frames, the spec functions of octets, small facts. -/
namespace Go.Proofs.Ytalpemoodollpaa.P
open Go.RowKit Go.Proofs.YtalpemoodollpaaW.PrintWords Go.Proofs.YtalpemoodollpaaW.PrintLast Go.Proofs.YtalpemoodollpaaW.PrintMore
set_option linter.unusedVariables false
set_option linter.unusedSimpArgs false

/-- The world w' is w, but for the blocks of S (and what is new). -/
structure Fr (w w' : World) (S : Nat → Prop) : Prop where
  os : w'.os = w.os
  tape : w'.tape = w.tape
  output : w'.output = w.output
  size : w.heap.size ≤ w'.heap.size
  block : ∀ k, k < w.heap.size → ¬ S k → w'.heap[k]? = w.heap[k]?

namespace Fr
variable {w w1 w2 : World} {S S1 : Nat → Prop}
theorem refl (w : World) (S : Nat → Prop) : Fr w w S := ⟨rfl, rfl, rfl, Nat.le_refl _, fun _ _ _ => rfl⟩
theorem of_below (h : Below w.heap.size w w1) (S : Nat → Prop) : Fr w w1 S := ⟨h.os, h.tape, h.output, h.size, fun k hk _ => h.block k hk⟩
theorem below (h : Fr w w1 S) {B : Nat} (hB : B ≤ w.heap.size) (hs : ∀ k, S k → B ≤ k) : Below B w w1 :=
  ⟨h.os, h.tape, h.output, h.size, fun k hk => h.block k (by omega) (fun hS => by have := hs k hS; omega)⟩
theorem mono (h : Fr w w1 S) (hs : ∀ k, k < w.heap.size → S k → S1 k) : Fr w w1 S1 := ⟨h.os, h.tape, h.output, h.size, fun k hk hn => h.block k hk (fun h2 => hn (hs k hk h2))⟩
theorem trans (h : Fr w w1 S) (k : Fr w1 w2 S1) (hs : ∀ k, k < w.heap.size → S1 k → S k) : Fr w w2 S :=
  ⟨k.os.trans h.os, k.tape.trans h.tape, k.output.trans h.output, Nat.le_trans h.size k.size,
    fun i hi hn => (k.block i (Nat.lt_of_lt_of_le hi h.size) (fun h2 => hn (hs i hi h2))).trans (h.block i hi hn)⟩
theorem alloc (h : Fr w w1 S) (o : Obj) : Fr w (w1.alloc o) S := h.trans (of_below (below_alloc (Below.refl _ _) o) S) (fun _ _ h => h)
theorem drew (h : Fr w w1 S) : Fr w w1.drew S := ⟨h.os, h.tape, h.output, h.size, h.block⟩
theorem drewN (h : Fr w w1 S) (m : Nat) : Fr w (w1.drewN m) S := ⟨h.os, h.tape, h.output, h.size, h.block⟩
theorem grown (h : Fr w w1 S) {row : Option Nat} (hg : w1.grownBy w2 row) (hr : ∀ k, k < w.heap.size → row = some k → S k) : Fr w w2 S :=
  ⟨hg.os.trans h.os, hg.tape.trans h.tape, hg.output.trans h.output, Nat.le_trans h.size hg.size,
    fun i hi hn => (hg.block i (Nat.lt_of_lt_of_le hi h.size) (fun e => hn (hr i hi e.symm))).trans (h.block i hi hn)⟩
theorem setCell (h : Fr w w1 S) (p : Addr) (u : Value) (hp : p.block < w.heap.size → S p.block) : Fr w (w1.setCell p u) S :=
  ⟨h.os, h.tape, h.output, by simpa [World.setCell] using h.size,
    fun i hi hn => (Below.heap_setCell w1 p u i (fun e => hn (by rw [e]; exact hp (by omega)))).trans (h.block i hi hn)⟩
theorem blk (h : Fr w w1 S) {g : Nat} {o : Obj} (hb : w.heap[g]? = some o) (hn : ¬ S g) : w1.heap[g]? = some o := (h.block g (blk_lt hb) hn).trans hb
theorem own (h : Fr w w1 S) {base : Nat} {e : TypeId} {size n : Nat} {v : Value} {xs : List Value} (ho : w.ownsRow base e size v n xs) (hn : ∀ k, v.ownBlock = some k → ¬ S k) : w1.ownsRow base e size v n xs :=
  own_move ho (fun k hk => h.block k (own_lt ho k hk) (hn k hk))
end Fr

/-- An octets.Writer at block g: its bytes; row: the block that they lie in. -/
def WS (W : World) (g : Nat) (row : Option Nat) (xs : List Int) : Prop :=
  ∃ v, W.heap[g]? = some (.cells #[v] 39 (0, 0)) ∧ v.ownBlock = row ∧ W.ownsRow 0 5 1 v xs.length (nums .u8 xs)

/-- The bytes of a number in groups of seven bits. -/
def numForm (n : Nat) : List Int := if n < 128 then [(n : Int)] else ((n % 128 + 128 : Nat) : Int) :: numForm (n / 128)
termination_by n
decreasing_by omega

/-- What a writer's method leaves. -/
def WPost (w : World) (g : Nat) (row : Option Nat) (xs : List Int) (w' : World) : Prop :=
  ∃ row', WS w' g row' xs ∧ (row' = row ∨ ∃ b, row' = some b ∧ w.heap.size ≤ b) ∧ Fr w w' (fun k => k = g ∨ row = some k)

/-- The same, with the value that the writer holds: what a walk keeps in its context. -/
structure WIn (w W : World) (g : Nat) (row : Option Nat) (xs : List Int) (v : Value) : Prop where
  hb : W.heap[g]? = some (.cells #[v] 39 (0, 0))
  ho : W.ownsRow 0 5 1 v xs.length (nums .u8 xs)
  hrow : v.ownBlock = row ∨ ∃ b, v.ownBlock = some b ∧ w.heap.size ≤ b
  hfr : Fr w W (fun k => k = g ∨ row = some k)
namespace WIn
variable {w W W1 : World} {g : Nat} {row : Option Nat} {xs ys : List Int} {v v1 : Value}
theorem cell (h : WIn w W g row xs v) : W.cell? ⟨g, 0, none⟩ = some v := (blk_cell h.hb 0).trans rfl
theorem frozen (h : WIn w W g row xs v) : W.frozen? ⟨g, 0, none⟩ = false := blk_frozen h.hb 0
theorem drew (h : WIn w W g row xs v) : WIn w W.drew g row xs v := ⟨h.hb, h.ho, h.hrow, h.hfr.drew⟩
theorem drewN (h : WIn w W g row xs v) (n : Nat) : WIn w (W.drewN n) g row xs v := ⟨h.hb, h.ho, h.hrow, h.hfr.drewN n⟩
theorem alloc (h : WIn w W g row xs v) (o : Obj) : WIn w (W.alloc o) g row xs v := ⟨blk_alloc h.hb o, h.ho.alloc o, h.hrow, h.hfr.alloc o⟩
theorem post (h : WIn w W g row xs v) : WPost w g row xs W := ⟨_, ⟨v, h.hb, rfl, h.ho⟩, h.hrow, h.hfr⟩
theorem start (h : WS w g row xs) : ∃ v, WIn w w g row xs v := by
  obtain ⟨v, hb, hr, ho⟩ := h
  exact ⟨v, hb, ho, .inl hr, Fr.refl _ _⟩
theorem of_post (h : WPost w g row xs W) : ∃ v, WIn w W g row xs v := by
  obtain ⟨row', ⟨v, hb, hr, ho⟩, hrow, hfr⟩ := h
  exact ⟨v, hb, ho, by rw [hr]; exact hrow, hfr⟩
/-- One append to a writer's bytes, and the store of what it left. -/
theorem step (h : WIn w W g row ys v) (hown : W1.ownsRow 0 5 1 v1 xs.length (nums .u8 xs)) (hg : W.grownBy W1 v.ownBlock) (hat : v1.ownBlock = v.ownBlock ∨ ∃ b, v1.ownBlock = some b ∧ W.heap.size ≤ b) :
    WIn w (W1.setCell ⟨g, 0, none⟩ v1) g row xs v1 := by
  have hne := own_ne h.ho h.hb (by decide)
  have hb1 := blk_grown h.hb hg hne
  have hne1 := own_ne hown hb1 (by decide)
  refine ⟨by simpa using blk_set hb1 0 v1, own_setCell hown hne1 v1, ?_, ?_⟩
  · rcases hat with hat | ⟨b, hat, hl⟩
    · rw [hat]; exact h.hrow
    · exact .inr ⟨b, hat, Nat.le_trans h.hfr.size hl⟩
  · refine (h.hfr.grown hg ?_).setCell _ _ (fun _ => .inl rfl)
    intro k hk he
    rcases h.hrow with hrow | ⟨b, hrow, hl⟩
    · right; rw [← hrow]; exact he
    · rw [hrow] at he; injection he with he; omega
theorem cells (h : WIn w W g row ys v) (hg : W.grownBy W1 v.ownBlock) : W1.cell? ⟨g, 0, none⟩ = some v ∧ W1.frozen? ⟨g, 0, none⟩ = false := by
  have hb1 := blk_grown h.hb hg (own_ne h.ho h.hb (by decide))
  exact ⟨(blk_cell hb1 0).trans rfl, blk_frozen hb1 0⟩
section
variable {ops : Array Oper} {rest : List Oper} {o : Oper} {a : Act} {Q : Exit → Act → World → Prop}
/-- 'w.b = append(w.b, y)': the append. -/
theorem append (h : WIn w W g row ys v) (hgd : o.guard = none) (s x : Operand) (y : Int)
    (ho : o.op = .call { callee := .builtin .append, args := #[s, x], argTypes := #[30, 30] }) (hs : a.eval s = v) (hx : a.eval x = .slice (some ⟨W.heap.size, 0, none⟩) 1 1)
    (hl : ys.length + 1 ≤ 140737488355328)
    (k : ∀ A n c w1, WIn w (w1.setCell ⟨g, 0, none⟩ (.slice A n c)) g row (ys ++ [y]) (.slice A n c) → Aside0 (w1.cell? ⟨g, 0, none⟩ = some v) → w1.frozen? ⟨g, 0, none⟩ = false → wpList Try.prog ops Q rest (a.put o.dst (.slice A n c)) w1) :
    wpList Try.prog ops Q (o :: rest) a (W.alloc (.cells #[.int .u8 y] 5)) := by
  refine print_append_num (w0 := W) 0 hgd s x 30 5 .u8 1 ho Try.underlying30 info5 (by decide) v ys y hs hx h.ho (Below.refl 0 W) (Nat.zero_le _) (by omega) ?_
  intro v1 w1 hown _ hgrow hat
  obtain ⟨A, c, rfl⟩ := own_slice hown
  obtain ⟨hc1, hf1⟩ := h.cells hgrow
  exact k A _ c w1 (h.step hown hgrow hat) ⟨hc1⟩ hf1
/-- 'w.b = append(w.b, b...)': the append. -/
theorem append_row {zs : List Int} {A : Option Addr} {m c : Nat} (h : WIn w W g row ys v) (hgd : o.guard = none) (s x : Operand)
    (ho : o.op = .call { callee := .builtin .append, args := #[s, x], argTypes := #[30, 30] }) (hs : a.eval s = v) (hx : a.eval x = .slice A m c) (hz : ReadsInt W .u8 A m zs)
    (hl : ys.length + m ≤ 140737488355328)
    (k : ∀ A n c w1, WIn w (w1.setCell ⟨g, 0, none⟩ (.slice A n c)) g row (ys ++ zs) (.slice A n c) → Aside0 (w1.cell? ⟨g, 0, none⟩ = some v) → w1.frozen? ⟨g, 0, none⟩ = false → wpList Try.prog ops Q rest (a.put o.dst (.slice A n c)) w1) :
    wpList Try.prog ops Q (o :: rest) a W := by
  refine print_append_row (w0 := W) 0 hgd s x 30 5 .u8 1 ho Try.underlying30 info5 (by decide) v ys zs A m c hs hx h.ho hz (Below.refl 0 W) (Nat.zero_le _) (by omega) ?_
  intro v1 w1 hown _ hgrow hat
  obtain ⟨A, c, rfl⟩ := own_slice hown
  obtain ⟨hc1, hf1⟩ := h.cells hgrow
  exact k A _ c w1 (h.step hown hgrow hat) ⟨hc1⟩ hf1
/-- The first, as a step of a region that draws its order. -/
theorem append_step {K : Act → World → Prop} (h : WIn w W g row ys v) (hw : Region.wanted o (yielded ops a.tmps) = true) (s x : Operand) (y : Int)
    (ho : o.op = .call { callee := .builtin .append, args := #[s, x], argTypes := #[30, 30] }) (hs : a.eval s = v) (hx : a.eval x = .slice (some ⟨W.heap.size, 0, none⟩) 1 1)
    (hl : ys.length + 1 ≤ 140737488355328)
    (k : ∀ A n c w1, WIn w (w1.setCell ⟨g, 0, none⟩ (.slice A n c)) g row (ys ++ [y]) (.slice A n c) → Aside0 (w1.cell? ⟨g, 0, none⟩ = some v) → w1.frozen? ⟨g, 0, none⟩ = false → K (a.put o.dst (.slice A n c)) w1) :
    if Region.wanted o (yielded ops a.tmps) = true then Oper.wp Try.prog o a (W.alloc (.cells #[.int .u8 y] 5)) K Q else K (a.put o.dst undef) (W.alloc (.cells #[.int .u8 y] 5)) := by
  refine step_append_cells (w0 := W) 0 hw s x 30 5 (.int .u8 0) 1 1 ho Try.underlying30 info5 rfl (by decide) (by decide) v ys.length (nums .u8 ys) [.int .u8 y] hs hx rfl (by intro u hu; rw [List.mem_singleton.1 hu]; rfl) h.ho (Below.refl 0 W) (Nat.zero_le _) (by omega) ?_
  intro v1 w1 hown _ hgrow hat
  have hown : w1.ownsRow 0 5 1 v1 (ys ++ [y]).length (nums .u8 (ys ++ [y])) := by simpa [nums] using hown
  obtain ⟨A, c, rfl⟩ := own_slice hown
  obtain ⟨hc1, hf1⟩ := h.cells hgrow
  exact k A _ c w1 (h.step hown hgrow hat) ⟨hc1⟩ hf1
end
end WIn

theorem numForm_small {n : Int} (h0 : 0 ≤ n) (h : n < 128) : numForm n.toNat = [n] := by
  rw [numForm, if_pos (by omega)]
  congr 1
  omega
theorem numForm_big {n : Int} (h : 128 ≤ n) : numForm n.toNat = (n % 128 + 128) :: numForm (n / 128).toNat := by
  rw [numForm, if_neg (by omega)]
  congr 1
  · omega
  · congr 1
    omega
theorem or128 (m : Int) (h : 0 ≤ m) : bits BinOp.or IntKind.u8 (m % 256) 128 = m % 128 + 128 := by
  have key : ∀ x : Fin 256, bits BinOp.or IntKind.u8 (x.val : Int) 128 = (x.val : Int) % 128 + 128 := by decide +kernel
  have := key ⟨(m % 256).toNat, by omega⟩
  simp only [Int.toNat_of_nonneg (show 0 ≤ m % 256 by omega)] at this
  rw [this]
  omega

/-- The bytes of a number, the greatest first. -/
def uintForm (n : Nat) : Nat → List Int
  | 0 => []
  | k + 1 => ((n / 256 ^ k % 256 : Nat) : Int) :: uintForm n k
theorem uintForm_length (n k : Nat) : (uintForm n k).length = k := by
  induction k with
  | zero => rfl
  | succ k ih => simp [uintForm, ih]
theorem numForm_pos (n : Nat) : 1 ≤ (numForm n).length := by rw [numForm]; split <;> simp
theorem numForm_le (k : Nat) : ∀ n : Nat, n < 128 ^ (k + 1) → (numForm n).length ≤ k + 1 := by
  induction k with
  | zero =>
    intro n h
    rw [numForm, if_pos (by simpa using h)]
    simp
  | succ k ih =>
    intro n h
    rw [numForm]
    split
    · simp
    · have h2 : n / 128 < 128 ^ (k + 1) := by
        rw [Nat.div_lt_iff_lt_mul (by decide)]
        rw [Nat.pow_succ] at h
        exact h
      have := ih _ h2
      simp only [List.length_cons]
      omega
theorem numForm_ten (n : Int) (h : n < 18446744073709551616) : (numForm n.toNat).length ≤ 10 := by
  refine numForm_le 9 _ ?_
  have : (128 : Nat) ^ (9 + 1) = 1180591620717411303424 := by decide
  omega
end Go.Proofs.Ytalpemoodollpaa.P
/- Bit operations as arithmetic. -/
namespace Go.Proofs.Ytalpemoodollpaa.P
open Go.RowKit Go.Proofs.YtalpemoodollpaaW.PrintWords Go.Proofs.YtalpemoodollpaaW.PrintLast Go.Proofs.YtalpemoodollpaaW.PrintMore
set_option linter.unusedVariables false
set_option linter.unusedSimpArgs false

theorem wrap_u64 (n : Int) : IntKind.u64.wrap n = n % 18446744073709551616 := by simp [IntKind.wrap, IntKind.bits, IntKind.signed]
theorem wrap64_eq (n : Int) : wrap64 n = (n + 9223372036854775808) % 18446744073709551616 - 9223372036854775808 := by unfold wrap64; omega
theorem wrap_u64_range (n : Int) : 0 ≤ IntKind.u64.wrap n ∧ IntKind.u64.wrap n < 18446744073709551616 := by rw [wrap_u64]; omega

theorem xor_ones (x : Nat) (h : x < 18446744073709551616) : x ^^^ 18446744073709551615 = 18446744073709551615 - x := by
  have h1 : BitVec.ofNat 64 x ^^^ BitVec.allOnes 64 = ~~~ BitVec.ofNat 64 x := BitVec.xor_allOnes
  have h2 := congrArg BitVec.toNat h1
  simp only [BitVec.toNat_xor, BitVec.toNat_not, BitVec.toNat_ofNat, BitVec.toNat_allOnes] at h2
  rw [Nat.mod_eq_of_lt (show x < 2 ^ 64 by omega)] at h2
  exact h2

/-- A number with a sign, turned. -/
def zig (n : Int) : Int := if 0 ≤ n then 2 * n else -2 * n - 1
theorem zig_range (n : Int) (h0 : -9223372036854775808 ≤ n) (h1 : n ≤ 9223372036854775807) : 0 ≤ zig n ∧ zig n < 18446744073709551616 := by
  unfold zig; split <;> omega
theorem zig_inj {a b : Int} (h : zig a = zig b) : a = b := by
  unfold zig at h
  by_cases ha : 0 ≤ a <;> by_cases hb : 0 ≤ b
  · rw [if_pos ha, if_pos hb] at h; omega
  · rw [if_pos ha, if_neg hb] at h; omega
  · rw [if_neg ha, if_pos hb] at h; omega
  · rw [if_neg ha, if_neg hb] at h; omega
theorem zig_bits (n : Int) (h0 : -9223372036854775808 ≤ n) (h1 : n ≤ 9223372036854775807) :
    bits BinOp.xor IntKind.u64 (IntKind.u64.wrap (wrap64 (n * 2))) (IntKind.u64.wrap (n / 9223372036854775808)) = zig n := by
  have ha := wrap_u64_range (wrap64 (n * 2))
  have hb := wrap_u64_range (n / 9223372036854775808)
  rw [u64_xor _ _ ha.1 ha.2 hb.1 hb.2]
  rw [wrap_u64, wrap_u64, wrap64_eq]
  unfold zig
  by_cases hn : 0 ≤ n
  · rw [if_pos hn]
    have e1 : n / 9223372036854775808 = 0 := by omega
    rw [e1]
    simp only [Int.zero_emod, Int.toNat_zero, Nat.xor_zero]
    omega
  · rw [if_neg hn]
    have e1 : n / 9223372036854775808 = -1 := by omega
    rw [e1]
    have e2 : ((-1 : Int) % 18446744073709551616).toNat = 18446744073709551615 := by decide
    rw [e2, xor_ones _ (by omega)]
    omega
/-- The number with a sign, back. -/
def unzig (n : Int) : Int := if n % 2 = 0 then n / 2 else -(n / 2) - 1
theorem unzig_zig (n : Int) : unzig (zig n) = n := by
  unfold unzig zig
  by_cases hn : 0 ≤ n
  · rw [if_pos hn]; split <;> omega
  · rw [if_neg hn]; split <;> omega
theorem zig_unzig (n : Int) (h : 0 ≤ n) : zig (unzig n) = n := by
  unfold unzig zig
  by_cases hn : n % 2 = 0
  · rw [if_pos hn]; split <;> omega
  · rw [if_neg hn]; split <;> omega
theorem and_one (n : Int) (h0 : 0 ≤ n) (h1 : n < 18446744073709551616) : bits BinOp.and IntKind.u64 n 1 = n % 2 := by
  rw [u64_and _ _ h0 h1 (by decide) (by decide)]
  have e : (1 : Int).toNat = 1 := rfl
  rw [e, Nat.and_one_is_mod]
  omega
theorem unzig_bits (n : Int) (h0 : 0 ≤ n) (h1 : n < 18446744073709551616) :
    bits BinOp.xor IntKind.i64 (wrap64 (n / 2)) (wrap64 (-wrap64 (bits BinOp.and IntKind.u64 n 1))) = unzig n := by
  rw [and_one n h0 h1]
  have e1 : wrap64 (n / 2) = n / 2 := by rw [wrap64_eq]; omega
  have e2 : wrap64 (n % 2) = n % 2 := by rw [wrap64_eq]; omega
  rw [e1, e2]
  obtain ⟨a, ha⟩ := Int.eq_ofNat_of_zero_le (show 0 ≤ n / 2 by omega)
  have ha2 : a < 9223372036854775808 := by omega
  unfold unzig
  rw [ha]
  by_cases hn : n % 2 = 0
  · rw [if_pos hn, hn]
    have e3 : wrap64 (-0) = 0 := by rw [wrap64_eq]; omega
    rw [e3]
    show IntKind.i64.wrap ((BitVec.ofInt 64 (a : Int) ^^^ BitVec.ofInt 64 0).toNat : Int) = _
    have h1 : BitVec.ofInt 64 0 = 0#64 := by decide
    rw [h1, BitVec.xor_zero, ofInt_u64 a (by omega)]
    simp [IntKind.wrap, IntKind.bits, IntKind.signed]
    omega
  · rw [if_neg hn, show n % 2 = 1 by omega]
    have e3 : wrap64 (-1) = -1 := by rw [wrap64_eq]; omega
    rw [e3]
    show IntKind.i64.wrap ((BitVec.ofInt 64 (a : Int) ^^^ BitVec.ofInt 64 (-1)).toNat : Int) = _
    have h1 : BitVec.ofInt 64 (-1) = BitVec.allOnes 64 := by decide
    rw [h1, BitVec.xor_allOnes, BitVec.toNat_not, ofInt_u64 a (by omega)]
    simp [IntKind.wrap, IntKind.bits, IntKind.signed]
    omega
theorem andNot128 (b : Int) (h0 : 0 ≤ b) (h1 : b ≤ 255) : bits BinOp.andNot IntKind.u8 b 128 = b % 128 := by
  have key : ∀ x : Fin 256, bits BinOp.andNot IntKind.u8 (x.val : Int) 128 = (x.val : Int) % 128 := by decide +kernel
  have := key ⟨b.toNat, by omega⟩
  simp only [Int.toNat_of_nonneg h0] at this
  exact this
/-- n | c << (7 * i), n below 2^(7 i). -/
theorem or_high (n c : Int) (i : Nat) (hi : i ≤ 9) (h0 : 0 ≤ n) (h1 : n < ((128 ^ i : Nat) : Int)) (h2 : 0 ≤ c) (h3 : c ≤ 127) (h4 : i = 9 → c ≤ 1) :
    bits BinOp.or IntKind.u64 n (IntKind.u64.wrap (c * 2 ^ (7 * i))) = n + c * ((128 ^ i : Nat) : Int) ∧ n + c * ((128 ^ i : Nat) : Int) < 18446744073709551616 ∧ 0 ≤ n + c * ((128 ^ i : Nat) : Int) ∧ n + c * ((128 ^ i : Nat) : Int) < ((128 ^ (i + 1) : Nat) : Int) := by
  have e0 : (2 : Int) ^ (7 * i) = ((128 ^ i : Nat) : Int) := by rw [Int.pow_mul]; rfl
  have hp : 0 < 128 ^ i := Nat.pow_pos (by decide)
  have hb : c * ((128 ^ i : Nat) : Int) + ((128 ^ i : Nat) : Int) ≤ 18446744073709551616 := by
    by_cases h9 : i = 9
    · subst h9
      have : 128 ^ 9 = 9223372036854775808 := by decide
      have := h4 rfl
      omega
    · have h5 : 128 ^ i ≤ 128 ^ 8 := Nat.pow_le_pow_right (by decide) (by omega)
      have h6 : 128 ^ 8 = 72057594037927936 := by decide
      have h7 : c * ((128 ^ i : Nat) : Int) ≤ 127 * ((128 ^ i : Nat) : Int) := Int.mul_le_mul_of_nonneg_right h3 (by omega)
      omega
  have hc : 0 ≤ c * ((128 ^ i : Nat) : Int) := Int.mul_nonneg h2 (by omega)
  have e1 : IntKind.u64.wrap (c * 2 ^ (7 * i)) = c * ((128 ^ i : Nat) : Int) := by rw [e0, wrap_u64]; omega
  have hn : n + c * ((128 ^ i : Nat) : Int) < ((128 ^ (i + 1) : Nat) : Int) := by
    have h7 : c * ((128 ^ i : Nat) : Int) ≤ 127 * ((128 ^ i : Nat) : Int) := Int.mul_le_mul_of_nonneg_right h3 (by omega)
    rw [Nat.pow_succ, Int.natCast_mul]
    have e : ((128 : Nat) : Int) = 128 := rfl
    rw [e]
    omega
  refine ⟨?_, by omega, by omega, hn⟩
  rw [e1, u64_or _ _ h0 (by omega) hc (by omega)]
  have h6 : (c * ((128 ^ i : Nat) : Int)).toNat = c.toNat <<< (7 * i) := by
    rw [Nat.shiftLeft_eq, Nat.pow_mul, show (2 : Nat) ^ 7 = 128 from rfl]
    obtain ⟨m, rfl⟩ := Int.eq_ofNat_of_zero_le h2
    rw [← Int.natCast_mul, Int.toNat_natCast, Int.toNat_natCast]
  rw [Nat.or_comm, h6, ← Nat.shiftLeft_add_eq_or_of_lt (b := n.toNat) (i := 7 * i) (by rw [Nat.pow_mul, show (2 : Nat) ^ 7 = 128 from rfl]; omega), ← h6]
  omega
theorem or_zero (c : Int) (h2 : 0 ≤ c) (h3 : c ≤ 255) : bits BinOp.or IntKind.u64 0 c = c := by
  rw [u64_or _ _ (by decide) (by decide) h2 (by omega)]
  have e : (0 : Int).toNat = 0 := rfl
  rw [e, Nat.zero_or]
  omega
end Go.Proofs.Ytalpemoodollpaa.P
/- The contracts of octets.Writer's methods. -/
namespace Go.Proofs.Ytalpemoodollpaa.P
open Go.RowKit Go.Proofs.YtalpemoodollpaaW.PrintWords Go.Proofs.YtalpemoodollpaaW.PrintLast Go.Proofs.YtalpemoodollpaaW.PrintMore
set_option linter.unusedVariables false
set_option linter.unusedSimpArgs false

set_option maxRecDepth 100000 in
set_option maxHeartbeats 400000 in
theorem octets_Writer_Num.calls (g : Nat) (row : Option Nat) (xs : List Int) (n : Int) (w : World) (h0 : 0 ≤ n) (hw : WS w g row xs) (hl : xs.length + (numForm n.toNat).length ≤ 140737488355328) :
    Calls Try.prog 36 #[.pointer (some ⟨g, 0, none⟩), .int .u64 n] w fun e w' => e = .returned (.pointer (some ⟨g, 0, none⟩)) ∧ WPost w g row (xs ++ numForm n.toNat) w' := by
  have HW := Aside0.mk hw
  have HL := Aside0.mk hl
  clear hw hl
  go_enter Try.func36, Try.ntmps36
  go_wp2
  go_loopw [1] (fun n1 wr => ∃ (m : Int) (ys : List Int) (v : Value), n1 = .int .u64 m ∧ 0 ≤ m ∧ Aside0 (ys ++ numForm m.toNat = xs ++ numForm n.toNat) ∧ WIn w wr g row ys v) (fun n1 _ => (intOf n1).toNat)
  case atStart => obtain ⟨v, hv⟩ := WIn.start HW.out; exact ⟨n, xs, v, rfl, h0, ⟨rfl⟩, hv⟩
  case round =>
    obtain ⟨m, ys, v', rfl, hm0, HE, HI⟩ := hrel
    have hc0 := HI.cell
    have hf0 := HI.frozen
    have hlen : ys.length + 1 ≤ 140737488355328 := by
      have h1 := congrArg List.length HE.out
      have h2 := HL.out
      have h3 : 1 ≤ (numForm m.toNat).length := by rw [numForm]; split <;> simp
      simp only [List.length_append] at h1
      omega
    by_cases hc : 128 ≤ m
    · go_wp2_with (at_builtin; refine HI.append rfl (.tmp 15) (.tmp 19) (bits BinOp.or IntKind.u8 (m % 256) 128) rfl rfl rfl hlen ?_; intro A1 n1 c1 w1 HS hc1 hf1; have hc1 := hc1.out)
      go_roundw
      case rel => exact ⟨m / 128, _, _, rfl, by omega, ⟨by rw [← HE.out, numForm_big hc, or128 m hm0, List.append_assoc]; rfl⟩, HS⟩
      case measure => simp [intOf]; omega
    · have hc' : m < 128 := by omega
      go_wp2_with (at_builtin; refine HI.append rfl (.tmp 27) (.tmp 30) m rfl rfl rfl hlen ?_; intro A1 n1 c1 w1 HS hc1 hf1; have hc1 := hc1.out)
      go_ret
      exact ⟨rfl, by rw [← HE.out, numForm_small hm0 hc']; exact HS.post⟩

theorem uint_byte (n i : Int) (h0 : 0 ≤ n) (hi : 0 ≤ i) : uintForm n.toNat (i + 1).toNat = (n / 2 ^ (8 * i).toNat % 256) :: uintForm n.toNat i.toNat := by
  obtain ⟨k, rfl⟩ := Int.eq_ofNat_of_zero_le hi
  obtain ⟨m, rfl⟩ := Int.eq_ofNat_of_zero_le h0
  have e1 : ((k : Int) + 1).toNat = k + 1 := by omega
  have e2 : (8 * (k : Int)).toNat = 8 * k := by omega
  rw [e1, e2]
  simp only [Int.toNat_natCast, uintForm]
  congr 1
  have e3 : (256 : Nat) ^ k = 2 ^ (8 * k) := by rw [Nat.pow_mul]
  rw [e3, Int.natCast_emod, Int.natCast_ediv, Int.natCast_pow]
  rfl

set_option maxRecDepth 100000 in
set_option maxHeartbeats 400000 in
theorem octets_Writer_Uint.calls (g : Nat) (row : Option Nat) (xs : List Int) (n k : Int) (w : World) (h0 : 0 ≤ n) (hw : WS w g row xs) (hk0 : 1 ≤ k) (hk1 : k ≤ 8) (hl : xs.length + 8 ≤ 140737488355328) :
    Calls Try.prog 99 #[.pointer (some ⟨g, 0, none⟩), .int .u64 n, .int .i64 k] w fun e w' => e = .returned (.pointer (some ⟨g, 0, none⟩)) ∧ WPost w g row (xs ++ uintForm n.toNat k.toNat) w' := by
  have HW := Aside0.mk hw
  have HL := Aside0.mk hl
  clear hw hl
  go_enter Try.func99, Try.ntmps99
  go_wp2
  go_loopw [7] (fun i1 wr => ∃ (i : Int) (ys : List Int) (v : Value), i1 = .int .i64 i ∧ -1 ≤ i ∧ i < k ∧ Aside0 (ys.length ≤ xs.length + (k - 1 - i).toNat) ∧ Aside0 (ys ++ uintForm n.toNat (i + 1).toNat = xs ++ uintForm n.toNat k.toNat) ∧ WIn w wr g row ys v) (fun i1 _ => (intOf i1 + 1).toNat)
  case atStart => obtain ⟨v, hv⟩ := WIn.start HW.out; exact ⟨k - 1, xs, v, rfl, by omega, by omega, ⟨by omega⟩, ⟨by rw [show k - 1 + 1 = k by omega]⟩, hv⟩
  case round =>
    obtain ⟨i, ys, v', rfl, hi0, hik, HLE, HE, HI⟩ := hrel
    have hc0 := HI.cell
    have hf0 := HI.frozen
    by_cases hc : 0 ≤ i
    · have hlen : ys.length + 1 ≤ 140737488355328 := by
        have h2 := HL.out
        have h3 := HLE.out
        omega
      have hs0 : 0 ≤ 8 * i := by omega
      have hs1 : 8 * i ≤ 64 := by omega
      have hs2 : IntKind.i64.wrap (8 * i) = 8 * i := IntWalk.i64_in _ (by omega)
      go_wp2_with fail
      have hca := fun o => (HI.alloc o).cell
      go_region_law (first | (refine HI.drew.append_step rfl (.tmp 29) (.tmp 35) (IntKind.u8.wrap (n / 2 ^ (8 * i).toNat)) rfl rfl rfl hlen ?_; intro A1 n1 c1 w1 HS hc1 hf1; have hc1 := hc1.out))
      all_goals
        clear hs2 hca
        go_wp2
        go_roundw
        case rel => exact ⟨i - 1, _, _, rfl, by omega, by omega, ⟨by have := HLE.out; simp only [List.length_append, List.length_singleton]; omega⟩, ⟨by rw [← HE.out, show i - 1 + 1 = i by omega, uint_byte n i h0 hc, List.append_assoc]; rfl⟩, HS⟩
        case measure => simp [intOf]; omega
    · have hi : i = -1 := by omega
      subst hi
      go_wp2
      go_ret
      exact ⟨rfl, by have h := HE.out; simp [uintForm] at h; rw [← h]; exact HI.post⟩

theorem octets_Writer_Uint.nil (n k : Int) (w : World) : Calls Try.prog 99 #[.pointer none, .int .u64 n, .int .i64 k] w fun e w' => e = .returned (.pointer none) ∧ w = w' := by
  go_enter Try.func99, Try.ntmps99
  go_wp2
  go_ret
  exact ⟨rfl, rfl⟩
theorem octets_Writer_Uint.none (g : Nat) (n k : Int) (w : World) (h : k < 1 ∨ 8 < k) : Calls Try.prog 99 #[.pointer (some ⟨g, 0, none⟩), .int .u64 n, .int .i64 k] w fun e w' => e = .returned (.pointer (some ⟨g, 0, none⟩)) ∧ w = w' := by
  by_cases h1 : k < 1
  · have h2 : ¬ 8 < k := by omega
    clear h
    go_enter Try.func99, Try.ntmps99
    go_wp2
    go_ret
    exact ⟨rfl, rfl⟩
  · have h2 : 8 < k := by omega
    clear h
    go_enter Try.func99, Try.ntmps99
    go_wp2
    go_ret
    exact ⟨rfl, rfl⟩
theorem octets_Writer_Num.nil (n : Int) (w : World) : Calls Try.prog 36 #[.pointer none, .int .u64 n] w fun e w' => e = .returned (.pointer none) ∧ w = w' := by
  go_enter Try.func36, Try.ntmps36
  go_wp2
  go_ret
  exact ⟨rfl, rfl⟩
/-- The bytes of a number with a sign. -/
def intForm (n : Int) : List Int := uintForm (zig n).toNat 8
theorem intForm_length (n : Int) : (intForm n).length = 8 := uintForm_length _ _
set_option maxRecDepth 100000 in
theorem octets_Writer_Int.calls (g : Nat) (row : Option Nat) (xs : List Int) (n : Int) (w : World) (h0 : -9223372036854775808 ≤ n) (h1 : n ≤ 9223372036854775807) (hw : WS w g row xs) (hl : xs.length + 8 ≤ 140737488355328) :
    Calls Try.prog 38 #[.pointer (some ⟨g, 0, none⟩), .int .i64 n] w fun e w' => e = .returned (.pointer (some ⟨g, 0, none⟩)) ∧ WPost w g row (xs ++ intForm n) w' := by
  have HZ := Aside0.mk (zig_bits n h0 h1)
  have HR := Aside0.mk (zig_range n h0 h1)
  clear h0 h1
  go_enter Try.func38, Try.ntmps38
  go_wp2_with fail
  rw [HZ.out]
  refine (octets_Writer_Uint.calls g row xs (zig n) 8 w HR.out.1 hw (by decide) (by decide) hl).mono ?_
  rintro e w' ⟨rfl, hp⟩
  go_wp2
  go_ret
  exact ⟨rfl, hp⟩
theorem octets_Writer_Int.nil (n : Int) (w : World) : Calls Try.prog 38 #[.pointer none, .int .i64 n] w fun e w' => e = .returned (.pointer none) ∧ w = w' := by
  go_enter Try.func38, Try.ntmps38
  go_wp2_with fail
  refine (octets_Writer_Uint.nil _ 8 w).mono ?_
  rintro e w' ⟨rfl, rfl⟩
  go_wp2
  go_ret
  exact ⟨rfl, rfl⟩
set_option maxRecDepth 100000 in
theorem octets_Writer_Raw.calls (g : Nat) (row : Option Nat) (xs zs : List Int) (A : Option Addr) (c : Nat) (w : World) (hw : WS w g row xs) (hz : Kd.C (Kd.int .u8) w A zs.length zs) (hl : xs.length + zs.length ≤ 140737488355328) :
    Calls Try.prog 94 #[.pointer (some ⟨g, 0, none⟩), .slice A zs.length c] w fun e w' => e = .returned (.pointer (some ⟨g, 0, none⟩)) ∧ WPost w g row (xs ++ zs) w' := by
  have HZ : Aside0 (ReadsInt w .u8 A zs.length zs) := ⟨Kd.reads_of_C (d := (0 : Int)) hz⟩
  obtain ⟨v, HI⟩ := WIn.start hw
  clear hw hz
  have hc0 := HI.cell
  have hf0 := HI.frozen
  go_enter Try.func94, Try.ntmps94
  go_wp2_with (at_builtin; refine HI.append_row rfl (.tmp 11) (.tmp 12) rfl rfl rfl HZ.out hl ?_; intro A1 n1 c1 w1 HS hc1 hf1; have hc1 := hc1.out)
  go_ret
  exact ⟨rfl, HS.post⟩
theorem octets_Writer_Raw.nil (v : Value) (w : World) : Calls Try.prog 94 #[.pointer none, v] w fun e w' => e = .returned (.pointer none) ∧ w = w' := by
  go_enter Try.func94, Try.ntmps94
  go_wp2
  go_ret
  exact ⟨rfl, rfl⟩
set_option maxRecDepth 100000 in
theorem bytes_Clone.calls (A0 : Option Addr) (c0 : Nat) (l0 : List Int) (w : World) (hr0 : Kd.C (Kd.int .u8) w A0 l0.length l0) (hl : l0.length ≤ 140737488355328) :
    Calls Try.prog 98 #[.slice A0 l0.length c0] w fun e w' => ∃ v0_ : Value, e = .returned v0_ ∧ Kd.R (Kd.int .u8) 5 w' w.heap.size (fun _ => True) v0_ l0 ∧ Below w.heap.size w w' := by
  have HZ : Aside0 (Kd.C (Kd.int .u8) w A0 l0.length l0) := ⟨hr0⟩
  have kn := fun (w : World) (a : Option Addr) (n c : Nat) => Lib.run_eql_slice_nil (P := Try.prog) w 30 5 a n c 0 0 Try.underlying30
  clear hr0
  cases A0 with
  | none =>
    have h0 : l0 = [] := by
      rcases Nat.eq_zero_or_pos l0.length with h | h
      · exact List.eq_nil_of_length_eq_zero h
      · obtain ⟨ad, h, _⟩ := HZ.out.2.2 h
        cases h
    subst h0
    go_enter Try.func98, Try.ntmps98
    go_wp2
    go_ret
    exact ⟨_, rfl, Kd.R_nil _ _ _ _ _, Below.refl _ _⟩
  | some ad =>
    have HE : Aside0 (World.ownsRow (w.alloc (.cells #[] 5)) w.heap.size 5 1 (.slice (some ⟨w.heap.size, 0, none⟩) 0 0) 0 (nums .u8 [])) := ⟨own_lit w w.heap.size 5 .u8 [] (Nat.le_refl _) (by decide)⟩
    have HZ2 : Aside0 (ReadsInt (w.alloc (.cells #[] 5)) .u8 (some ad) l0.length l0) := ⟨Kd.reads_of_C (d := (0 : Int)) (Kd.C_below HZ.out (below_alloc (Below.refl _ _) _))⟩
    go_enter Try.func98, Try.ntmps98
    go_wp2_with (at_builtin; refine print_append_row (w0 := w) w.heap.size rfl (.tmp 5) (.tmp 6) 30 5 .u8 1 rfl Try.underlying30 info5 (by decide) (.slice (some ⟨w.heap.size, 0, none⟩) 0 0) [] l0 (some ad) l0.length c0 rfl rfl HE.out HZ2.out (below_alloc (Below.refl _ _) _) (by simp) (by simp; omega) ?_; intro v1 w1 hown hb _ _; have HOWN := Aside0.mk hown; have HB := Aside0.mk hb; obtain ⟨A1, c1, e1⟩ := own_slice hown; subst e1; clear hown hb)
    go_ret
    exact ⟨_, rfl, Kd.R_of_own HOWN.out (fun _ _ => trivial), HB.out⟩
set_option maxRecDepth 100000 in
theorem octets_Writer_Bytes.calls (g : Nat) (row : Option Nat) (xs : List Int) (w : World) (hw : WS w g row xs) (hl : xs.length ≤ 140737488355328) :
    Calls Try.prog 37 #[.pointer (some ⟨g, 0, none⟩)] w fun e w' => ∃ v0_ : Value, e = .returned v0_ ∧ Kd.R (Kd.int .u8) 5 w' w.heap.size (fun _ => True) v0_ xs ∧ Below w.heap.size w w' := by
  obtain ⟨v, HI⟩ := WIn.start hw
  clear hw
  have hR := Kd.R_of_own (h1 := fun _ => rfl) HI.ho (ok := fun _ => True) (fun _ _ => trivial)
  obtain ⟨A, c, rfl, _, hC⟩ := Kd.R_reads hR
  have HC := Aside0.mk hC
  clear hR hC
  have hc0 := HI.cell
  have hf0 := HI.frozen
  go_enter Try.func37, Try.ntmps37
  go_wp2_with fail
  refine (bytes_Clone.calls A c xs w HC.out hl).mono ?_
  rintro e w' ⟨v0, rfl, hR, hB⟩
  go_wp2
  go_ret
  exact ⟨_, rfl, hR, hB⟩
theorem octets_Writer_Bytes.nil (w : World) : Calls Try.prog 37 #[.pointer none] w fun e w' => e = .returned (.slice none 0 0) ∧ w = w' := by
  go_enter Try.func37, Try.ntmps37
  go_wp2
  go_ret
  exact ⟨rfl, rfl⟩
end Go.Proofs.Ytalpemoodollpaa.P
/- The contracts of octets.Reader's methods. -/
namespace Go.Proofs.Ytalpemoodollpaa.P
open Go.RowKit Go.Proofs.YtalpemoodollpaaW.PrintWords Go.Proofs.YtalpemoodollpaaW.PrintLast Go.Proofs.YtalpemoodollpaaW.PrintMore
set_option linter.unusedVariables false
set_option linter.unusedSimpArgs false

/-- Bytes are bytes. -/
def Byt (bs : List Int) : Prop := ∀ b ∈ bs, 0 ≤ b ∧ b ≤ 255
theorem Byt.nil : Byt [] := fun b h => by cases h
theorem Byt.cons {b : Int} {bs : List Int} (h : Byt (b :: bs)) : (0 ≤ b ∧ b ≤ 255) ∧ Byt bs := ⟨h b List.mem_cons_self, fun x hx => h x (List.mem_cons_of_mem _ hx)⟩
theorem Byt.mk {b : Int} {bs : List Int} (h : 0 ≤ b ∧ b ≤ 255) (hs : Byt bs) : Byt (b :: bs) := fun x hx => by
  rcases List.mem_cons.1 hx with rfl | hx
  · exact h
  · exact hs x hx
theorem Byt.take {bs : List Int} (h : Byt bs) (n : Nat) : Byt (bs.take n) := fun b hb => h b (List.mem_of_mem_take hb)
theorem Byt.drop {bs : List Int} (h : Byt bs) (n : Nat) : Byt (bs.drop n) := fun b hb => h b (List.mem_of_mem_drop hb)
theorem Byt.append {bs cs : List Int} (h : Byt bs) (k : Byt cs) : Byt (bs ++ cs) := fun b hb => (List.mem_append.1 hb).elim (h b) (k b)

/-- An octets.Reader at block g: what is left, the fault; row: the block of its bytes. -/
def RS (W : World) (g : Nat) (row : Option Nat) (s : List Int × Int) : Prop :=
  ∃ A c, W.heap[g]? = some (.cells #[.slice A s.1.length c, .int .i64 s.2] 146 (0, 0)) ∧ s.1.length ≤ c ∧ Kd.C (Kd.int .u8) W A s.1.length s.1 ∧ A.map (·.block) = row ∧ row ≠ some g ∧ Byt s.1
/-- What a reader's method leaves. -/
def RPost (w : World) (g : Nat) (row : Option Nat) (s : List Int × Int) (w' : World) : Prop := RS w' g row s ∧ Fr w w' (fun k => k = g)

/-- A slice that is read, in a world that has kept its block. -/
theorem Fr.C {w w1 : World} {S : Nat → Prop} (h : Fr w w1 S) {A : Option Addr} {n : Nat} {xs : List Int} (hc : Kd.C (Kd.int .u8) w A n xs) (hn : ∀ k, A.map (·.block) = some k → ¬ S k) : Kd.C (Kd.int .u8) w1 A n xs := by
  refine Kd.C_of_reads (d := (0 : Int)) ?_
  have hc' := Kd.reads_of_C (d := (0 : Int)) hc
  refine ⟨hc'.1, hc'.2.1, fun hp => ?_⟩
  obtain ⟨ad, rfl, hcell⟩ := hc'.2.2 hp
  refine ⟨ad, rfl, fun j hj => ?_⟩
  have h1 := hcell j hj
  have hb : (ad.add j).block = ad.block := by unfold Addr.add; split <;> rfl
  have h2 := h.block ad.block (by rw [← hb]; exact World.block_lt_of_cell? w _ h1) (hn _ rfl)
  simp only [World.cell?, hb] at h1 ⊢
  rw [h2]
  exact h1
theorem RS.fr {w w1 : World} {S : Nat → Prop} {g : Nat} {row : Option Nat} {s : List Int × Int} (h : RS w g row s) (hf : Fr w w1 S) (hg : ¬ S g) (hr : ∀ k, row = some k → ¬ S k) : RS w1 g row s := by
  obtain ⟨A, c, hb, hl, hC, he, hne, hby⟩ := h
  exact ⟨A, c, hf.blk hb hg, hl, hf.C hC (fun k hk => hr k (by rw [← he]; exact hk)), he, hne, hby⟩
theorem RS.open_ {W : World} {g : Nat} {row : Option Nat} {s : List Int × Int} (h : RS W g row s) :
    ∃ A c, Aside0 (W.heap[g]? = some (.cells #[.slice A s.1.length c, .int .i64 s.2] 146 (0, 0))) ∧ Aside0 (Kd.C (Kd.int .u8) W A s.1.length s.1) ∧ Aside0 (A.map (·.block) = row) ∧ Aside0 (row ≠ some g) ∧ Aside0 (Byt s.1) ∧ s.1.length ≤ c ∧
      W.cell? ⟨g, 0, none⟩ = some (.slice A s.1.length c) ∧ W.cell? ⟨g, 1, none⟩ = some (.int .i64 s.2) ∧ W.frozen? ⟨g, 0, none⟩ = false ∧ W.frozen? ⟨g, 1, none⟩ = false := by
  obtain ⟨A, c, hb, hl, hC, he, hne, hby⟩ := h
  exact ⟨A, c, ⟨hb⟩, ⟨hC⟩, ⟨he⟩, ⟨hne⟩, ⟨hby⟩, hl, (blk_cell hb 0).trans rfl, (blk_cell hb 1).trans rfl, blk_frozen hb 0, blk_frozen hb 1⟩
theorem C_bound {w : World} {A : Option Addr} {n : Nat} {xs : List Int} (h : Kd.C (Kd.int .u8) w A n xs) : n ≤ 9223372036854775807 := h.2.1

/-- 'xs[m:]' of bytes: the block stays. -/
theorem cut_ (A : Option Addr) (n c m : Nat) (hm : m ≤ n) :
    ∃ A' : Option Addr, (∀ W : World, (Instr.slice 30 (.slice A n c) (some (.int .i64 (m : Int))) none none).run Try.prog W = .ok (.slice A' (n - m) (c - m)) W) ∧ A'.map (·.block) = A.map (·.block) ∧
      ∀ (w : World) (xs : List Int), n ≤ c → Kd.C (Kd.int .u8) w A n xs → Kd.C (Kd.int .u8) w A' (n - m) (xs.drop m) := by
  obtain ⟨i, hi, hzz⟩ := Option.map_eq_some_iff.1 info5
  simp only [Prod.mk.injEq] at hzz
  refine ⟨if c = m then A else A.map (·.add m), fun W => ?_, ?_, fun w xs hc h => ?_⟩
  · have hel : Try.prog.elem 30 = 5 := by simp [Program.elem, Try.underlying30]
    have hu : Try.prog.underlying 30 = some (.slice (Try.prog.elem 30)) := by rw [hel]; exact Try.underlying30
    rw [run_slice_l W 30 A n c hu .i64 (m : Int) (Int.natCast_nonneg _) (by omega), hel]
    simp [sizeOf, typeInfo, hi, hzz.2.1, sliced, Result.andThen]
  · split
    · rfl
    · cases A with
      | none => rfl
      | some ad => simp only [Option.map_some]; unfold Addr.add; split <;> rfl
  · have h2 : ReadsInt w .u8 A n xs := Kd.reads_of_C (d := (0 : Int)) h
    have h3 := h2.drop_ m hm hc
    exact Kd.C_of_reads (d := (0 : Int)) (h1 := fun _ => rfl) h3
theorem C_take {w : World} {A : Option Addr} {n : Nat} {xs : List Int} (h : Kd.C (Kd.int .u8) w A n xs) (m : Nat) (hm : m ≤ n) : Kd.C (Kd.int .u8) w A m (xs.take m) := by
  have h2 : ReadsInt w .u8 A n xs := Kd.reads_of_C (d := (0 : Int)) h
  have h3 := h2.take_ m hm
  exact Kd.C_of_reads (d := (0 : Int)) (h1 := fun _ => rfl) h3

/-- What take tells and leaves. -/
def rTake (s : List Int × Int) (n : Nat) : List Int × Bool × (List Int × Int) :=
  if s.2 ≠ 0 then ([], false, s) else if s.1.length < n then ([], false, (s.1, 3)) else (s.1.take n, true, (s.1.drop n, 0))

set_option maxRecDepth 100000 in
theorem octets_Reader_take.calls (g : Nat) (row : Option Nat) (s : List Int × Int) (n : Nat) (w : World) (hn : n ≤ 9223372036854775807) (hs : RS w g row s) :
    Calls Try.prog 132 #[.pointer (some ⟨g, 0, none⟩), .int .i64 (n : Int)] w fun e w' => ∃ A c, e = .returned (.tuple #[.slice A (rTake s n).1.length c, .bool (rTake s n).2.1]) ∧ Kd.C (Kd.int .u8) w' A (rTake s n).1.length (rTake s n).1 ∧ (rTake s n).1.length ≤ c ∧ Byt (rTake s n).1 ∧ RPost w g row (rTake s n).2.2 w' := by
  obtain ⟨bs, f⟩ := s
  obtain ⟨A, c, HB, HC, HE, HN, HY, hlc, hc0, hc1, hf0, hf1⟩ := hs.open_
  have HS := Aside0.mk hs
  have hbd := C_bound HC.out
  clear hs
  simp only at HB HC HY hlc hc0 hc1 hbd
  by_cases hf : f = 0
  · subst hf
    by_cases hlt : bs.length < n
    · have H : Aside0 (rTake (bs, 0) n = ([], false, (bs, 3))) := ⟨by simp [rTake, hlt]⟩
      go_enter Try.func132, Try.ntmps132
      go_wp2
      go_ret2
      rw [H.out]
      refine ⟨none, 0, rfl, Kd.C_nil _ _, Nat.le_refl _, Byt.nil, ⟨A, c, by simpa using blk_set HB.out 1 (.int .i64 3), hlc, ?_, HE.out, HN.out, HY.out⟩, (Fr.refl _ _).setCell _ _ (fun _ => rfl)⟩
      exact ((Fr.refl w (fun k => k = g)).setCell ⟨g, 1, none⟩ (.int .i64 3) (fun _ => rfl)).C HC.out (fun k hk => by rw [HE.out] at hk; intro e; subst e; exact HN.out hk)
    · have H : Aside0 (rTake (bs, 0) n = (bs.take n, true, (bs.drop n, 0))) := ⟨by simp [rTake, hlt]⟩
      obtain ⟨A', hcut, hA, hR⟩ := cut_ A bs.length c n (by omega)
      have HA := Aside0.mk hA
      have HR := Aside0.mk hR
      clear hA hR
      go_enter Try.func132, Try.ntmps132
      go_wp2
      go_ret2
      rw [H.out]
      have hfr : Fr w (w.setCell ⟨g, 0, none⟩ (.slice A' (bs.length - n) (c - n))) (fun k => k = g) := (Fr.refl _ _).setCell _ _ (fun _ => rfl)
      have hnr : ∀ k, row = some k → ¬ k = g := fun k hk e => by subst e; exact HN.out hk
      have hlt' : (bs.take n).length = n := by rw [List.length_take]; omega
      have hld : (bs.drop n).length = bs.length - n := List.length_drop
      refine ⟨A, c, by simp only [hlt']; rfl, hfr.C (by simp only [hlt']; exact C_take HC.out n (by omega)) (fun k hk => hnr k (by rw [← HE.out]; exact hk)), by simp only [hlt']; omega, HY.out.take n, ⟨A', c - n, ?_, by simp only [hld]; omega, ?_, by rw [HA.out]; exact HE.out, HN.out, HY.out.drop n⟩, hfr⟩
      · simp only [hld]
        simpa using blk_set HB.out 0 (.slice A' (bs.length - n) (c - n))
      · simp only [hld]
        exact hfr.C (HR.out w bs hlc HC.out) (fun k hk => hnr k (by rw [← HE.out, ← HA.out]; exact hk))
  · have H : Aside0 (rTake (bs, f) n = ([], false, (bs, f))) := ⟨by simp [rTake, hf]⟩
    have hf' : (f == 0) = false := by simpa using hf
    clear hf
    go_enter Try.func132, Try.ntmps132
    go_wp2
    go_ret2
    rw [H.out]
    exact ⟨none, 0, rfl, Kd.C_nil _ _, Nat.le_refl _, Byt.nil, HS.out, Fr.refl _ _⟩
theorem octets_Reader_take.nil (n : Int) (w : World) : Calls Try.prog 132 #[.pointer none, .int .i64 n] w fun e w' => e = .returned (.tuple #[.slice none 0 0, .bool false]) ∧ w = w' := by
  go_enter Try.func132, Try.ntmps132
  go_wp2
  go_ret2
  exact ⟨rfl, rfl⟩
set_option maxRecDepth 100000 in
theorem octets_Reader_Left.calls (g : Nat) (row : Option Nat) (s : List Int × Int) (w : World) (hs : RS w g row s) :
    Calls Try.prog 64 #[.pointer (some ⟨g, 0, none⟩)] w fun e w' => e = .returned (.int .i64 s.1.length) ∧ w = w' := by
  obtain ⟨A, c, HB, HC, HE, HN, HY, hlc, hc0, hc1, hf0, hf1⟩ := hs.open_
  clear hs
  go_enter Try.func64, Try.ntmps64
  go_wp2
  go_ret
  exact ⟨rfl, rfl⟩
theorem octets_Reader_Left.nil (w : World) : Calls Try.prog 64 #[.pointer none] w fun e w' => e = .returned (.int .i64 0) ∧ w = w' := by
  go_enter Try.func64, Try.ntmps64
  go_wp2
  go_ret
  exact ⟨rfl, rfl⟩
set_option maxRecDepth 100000 in
theorem octets_Reader_Fault.calls (g : Nat) (row : Option Nat) (s : List Int × Int) (w : World) (hs : RS w g row s) :
    Calls Try.prog 63 #[.pointer (some ⟨g, 0, none⟩)] w fun e w' => e = .returned (.int .i64 s.2) ∧ w = w' := by
  obtain ⟨A, c, HB, HC, HE, HN, HY, hlc, hc0, hc1, hf0, hf1⟩ := hs.open_
  clear hs
  go_enter Try.func63, Try.ntmps63
  go_wp2
  go_ret
  exact ⟨rfl, rfl⟩
theorem octets_Reader_Fault.nil (w : World) : Calls Try.prog 63 #[.pointer none] w fun e w' => e = .returned (.int .i64 3) ∧ w = w' := by
  go_enter Try.func63, Try.ntmps63
  go_wp2
  go_ret
  exact ⟨rfl, rfl⟩
set_option maxRecDepth 100000 in
theorem octets_Reader_bad.at_ (g : Nat) (row : Option Nat) (s : List Int × Int) (w : World) (hs : RS w g row s) :
    Calls Try.prog 133 #[.pointer (some ⟨g, 0, none⟩)] w fun e w' => e = .returned (.int .u64 0) ∧ RPost w g row (s.1, 4) w' := by
  obtain ⟨A, c, HB, HC, HE, HN, HY, hlc, hc0, hc1, hf0, hf1⟩ := hs.open_
  clear hs
  go_enter Try.func133, Try.ntmps133
  go_wp2
  go_ret
  refine ⟨rfl, ⟨A, c, by simpa using blk_set HB.out 1 (.int .i64 4), hlc, ?_, HE.out, HN.out, HY.out⟩, (Fr.refl _ _).setCell _ _ (fun _ => rfl)⟩
  exact ((Fr.refl w (fun k => k = g)).setCell ⟨g, 1, none⟩ (.int .i64 4) (fun _ => rfl)).C HC.out (fun k hk => by rw [HE.out] at hk; intro e; subst e; exact HN.out hk)
set_option maxRecDepth 100000 in
theorem octets_NewReader.calls (A : Option Addr) (c : Nat) (bs : List Int) (w : World) (hr : Kd.C (Kd.int .u8) w A bs.length bs) (hl : bs.length ≤ 140737488355328) (hb : Byt bs) :
    Calls Try.prog 60 #[.slice A bs.length c] w fun e w' => ∃ g row, e = .returned (.pointer (some ⟨g, 0, none⟩)) ∧ RS w' g row (bs, 0) ∧ Below w.heap.size w w' ∧ w.heap.size ≤ g ∧ g < w'.heap.size ∧ ∀ k, row = some k → w.heap.size ≤ k := by
  have HR := Aside0.mk hr
  have HY := Aside0.mk hb
  clear hr hb
  go_enter Try.func60, Try.ntmps60
  go_wp2_with fail
  refine (bytes_Clone.calls A c bs w HR.out hl).mono ?_
  rintro e w' ⟨v0, rfl, hR, hB⟩
  obtain ⟨A1, c1, rfl, hlc, hC⟩ := Kd.R_reads hR
  have hbase := Kd.R_bound hR
  have HC := Aside0.mk hC
  have HB := Aside0.mk hB
  have HBASE := Aside0.mk hbase.1
  clear hR hC hB hbase
  go_wp2
  go_ret
  refine ⟨w'.heap.size, _, rfl, ⟨A1, c1, ?_, hlc, Kd.C_below HC.out (below_alloc (Below.refl _ _) _), rfl, ?_, HY.out⟩, below_alloc HB.out _, HB.out.size, ?_, ?_⟩
  · exact blk_new w' _
  · intro e
    have := HBASE.out w'.heap.size (by cases A1 <;> simp_all [Value.ownBlock])
    omega
  · simp
  · intro k hk
    exact (HBASE.out k (by cases A1 <;> simp_all [Value.ownBlock])).2.1

/-- Bytes as a number, the greatest first. -/
def beNum (bs : List Int) : Int := bs.foldl (fun n b => n * 256 + b) 0
theorem beNum_snoc (bs : List Int) (b : Int) : beNum (bs ++ [b]) = beNum bs * 256 + b := by simp [beNum, List.foldl_append]
theorem beNum_from (bs : List Int) : ∀ a : Int, bs.foldl (fun n b => n * 256 + b) a = a * ((256 ^ bs.length : Nat) : Int) + beNum bs := by
  induction bs with
  | nil => intro a; simp [beNum]
  | cons b bs ih =>
    intro a
    have h1 := ih (a * 256 + b)
    have h2 := ih (0 * 256 + b)
    simp only [beNum, List.foldl_cons, List.length_cons] at *
    rw [h1, h2, Nat.pow_succ]
    generalize 256 ^ bs.length = q
    rw [Int.natCast_mul, Int.add_mul, Int.mul_assoc, Int.mul_comm (256 : Int) (q : Int)]
    have e : ((256 : Nat) : Int) = 256 := rfl
    rw [e, show (0 : Int) * 256 + b = b by omega]
    omega
theorem beNum_cons (b : Int) (bs : List Int) : beNum (b :: bs) = b * ((256 ^ bs.length : Nat) : Int) + beNum bs := by
  have := beNum_from bs (0 * 256 + b)
  simp only [beNum, List.foldl_cons] at *
  rw [this]
  simp
theorem beNum_range (bs : List Int) (h : Byt bs) : 0 ≤ beNum bs ∧ beNum bs < ((256 ^ bs.length : Nat) : Int) := by
  induction bs with
  | nil => exact ⟨by decide, by decide⟩
  | cons b bs ih =>
    have h1 := ih h.cons.2
    have h2 := h.cons.1
    rw [beNum_cons, List.length_cons, Nat.pow_succ]
    generalize 256 ^ bs.length = q at *
    have h3 : b * (q : Int) ≤ 255 * (q : Int) := Int.mul_le_mul_of_nonneg_right h2.2 (by omega)
    have h4 : 0 ≤ b * (q : Int) := Int.mul_nonneg h2.1 (by omega)
    rw [Int.natCast_mul]
    have e : ((256 : Nat) : Int) = 256 := rfl
    rw [e]
    omega
theorem beNum_seven (bs : List Int) (h : Byt bs) (hl : bs.length ≤ 7) : beNum bs < 72057594037927936 := by
  have h1 := (beNum_range bs h).2
  have h2 : 256 ^ bs.length ≤ 256 ^ 7 := Nat.pow_le_pow_right (by decide) hl
  have h3 : 256 ^ 7 = 72057594037927936 := by decide
  omega
def rUint (s : List Int × Int) (k : Int) : Int × (List Int × Int) :=
  if k < 1 ∨ 8 < k then (0, s) else (beNum (rTake s k.toNat).1, (rTake s k.toNat).2.2)
theorem or_low (n c : Int) (h0 : 0 ≤ n) (h1 : n < 72057594037927936) (h2 : 0 ≤ c) (h3 : c ≤ 255) : bits BinOp.or IntKind.u64 (IntKind.u64.wrap (n * 256)) c = n * 256 + c := by
  have e : IntKind.u64.wrap (n * 256) = n * 256 := by rw [wrap_u64]; omega
  rw [e, u64_or _ _ (by omega) (by omega) (by omega) (by omega)]
  have h4 : (n * 256).toNat = n.toNat <<< 8 := by rw [Nat.shiftLeft_eq]; omega
  rw [h4, ← Nat.shiftLeft_add_eq_or_of_lt (by omega : c.toNat < 2 ^ 8), Nat.shiftLeft_eq]
  omega
set_option maxRecDepth 100000 in
set_option maxHeartbeats 400000 in
theorem octets_Reader_Uint.calls (g : Nat) (row : Option Nat) (s : List Int × Int) (k : Int) (w : World) (hs : RS w g row s) :
    Calls Try.prog 104 #[.pointer (some ⟨g, 0, none⟩), .int .i64 k] w fun e w' => e = .returned (.int .u64 (rUint s k).1) ∧ RPost w g row (rUint s k).2 w' := by
  have HS := Aside0.mk hs
  clear hs
  by_cases h1 : k < 1
  · have H : Aside0 (rUint s k = (0, s)) := ⟨by simp [rUint, h1]⟩
    go_enter Try.func104, Try.ntmps104
    go_wp2
    go_ret
    rw [H.out]
    exact ⟨rfl, HS.out, Fr.refl _ _⟩
  by_cases h2 : 8 < k
  · have H : Aside0 (rUint s k = (0, s)) := ⟨by simp [rUint, h2]⟩
    go_enter Try.func104, Try.ntmps104
    go_wp2
    go_ret
    rw [H.out]
    exact ⟨rfl, HS.out, Fr.refl _ _⟩
  have H : Aside0 (rUint s k = (beNum (rTake s k.toNat).1, (rTake s k.toNat).2.2)) := ⟨by rw [rUint, if_neg (by omega)]⟩
  rw [H.out]
  clear H
  obtain ⟨m, rfl⟩ := Int.eq_ofNat_of_zero_le (show 0 ≤ k by omega)
  rw [Int.toNat_natCast]
  have hlen : (rTake s m).1.length ≤ 8 := by unfold rTake; split; simp; split; simp; simp only [List.length_take]; omega
  have HT := Aside0.mk (octets_Reader_take.calls g row s m w (by omega) HS.out)
  generalize rTake s m = T at *
  obtain ⟨xs, ok, st⟩ := T
  simp only at hlen HT ⊢
  go_enter Try.func104, Try.ntmps104
  go_wp2_with fail
  refine HT.out.mono ?_
  rintro e w' ⟨A, c, rfl, hC, hlc, hY, hP⟩
  have HC := Aside0.mk hC
  have HY := Aside0.mk hY
  have HP := Aside0.mk hP
  clear hC hY hP
  go_wp2
  go_loop [4, 8, 23] (fun n _ i => ∃ j : Nat, j ≤ xs.length ∧ i = .int .i64 j ∧ n = .int .u64 (beNum (xs.take j))) (fun _ _ i => xs.length - (intOf i).toNat)
  case atStart => exact ⟨0, Nat.zero_le _, rfl, rfl⟩
  case round =>
    obtain ⟨j, hj, rfl, rfl⟩ := hrel
    by_cases hlt : j < xs.length
    · obtain ⟨ad, rfl, hcell⟩ := (Kd.reads_of_C (d := (0 : Int)) HC.out).2.2 (by omega)
      have hcj : w'.cell? (ad.add j) = some (.int .u8 (xs.getD j 0)) := hcell j hlt
      clear hcell
      generalize hb : xs.getD j 0 = b at *
      have HB : Aside0 (xs.take (j + 1) = xs.take j ++ [b]) := ⟨by rw [List.take_succ_eq_append_getElem hlt, ← hb]; simp [List.getD_eq_getElem?_getD, hlt]⟩
      have hbr : 0 ≤ b ∧ b ≤ 255 := by rw [← hb]; exact HY.out _ (by simp [List.getD_eq_getElem?_getD, hlt])
      have HOR := Aside0.mk (or_low (beNum (xs.take j)) b (beNum_range (xs.take j) (HY.out.take j)).1 (beNum_seven (xs.take j) (HY.out.take j) (by rw [List.length_take]; omega)) hbr.1 hbr.2)
      have H0 := beNum_range (xs.take j) (HY.out.take j)
      have H00 := H0.1
      clear hb H0
      go_wp2
      go_round
      case rel => exact ⟨j + 1, by omega, by go_num, by rw [HOR.out, HB.out, beNum_snoc]⟩
      case measure => simp [intOf]; omega
    · have hj2 : j = xs.length := by omega
      subst hj2
      go_wp2
      go_ret
      exact ⟨rfl, HP.out⟩
end Go.Proofs.Ytalpemoodollpaa.P
/- The contracts of octets.Reader's methods: Int, Raw, Num. -/
namespace Go.Proofs.Ytalpemoodollpaa.P
open Go.RowKit Go.Proofs.YtalpemoodollpaaW.PrintWords Go.Proofs.YtalpemoodollpaaW.PrintLast Go.Proofs.YtalpemoodollpaaW.PrintMore
set_option linter.unusedVariables false
set_option linter.unusedSimpArgs false

set_option maxRecDepth 100000 in
theorem octets_Reader_Raw.neg (g : Nat) (k : Int) (w : World) (hk : k < 0) :
    Calls Try.prog 105 #[.pointer (some ⟨g, 0, none⟩), .int .i64 k] w fun e w' => e = .returned (.slice none 0 0) ∧ w = w' := by
  go_enter Try.func105, Try.ntmps105
  go_wp2
  go_ret
  exact ⟨rfl, rfl⟩
set_option maxRecDepth 100000 in
theorem octets_Reader_Raw.nil (k : Int) (w : World) :
    Calls Try.prog 105 #[.pointer none, .int .i64 k] w fun e w' => ∃ v, e = .returned v ∧ Kd.R (Kd.int .u8) 5 w' w.heap.size (fun _ => True) v [] ∧ Below w.heap.size w w' := by
  by_cases hk : k < 0
  · go_enter Try.func105, Try.ntmps105
    go_wp2
    go_ret
    exact ⟨_, rfl, Kd.R_nil _ _ _ _ _, Below.refl _ _⟩
  · go_enter Try.func105, Try.ntmps105
    go_wp2_with fail
    refine (octets_Reader_take.nil _ w).mono ?_
    rintro e w' ⟨rfl, rfl⟩
    go_wp2_with fail
    refine (bytes_Clone.calls none 0 [] w (Kd.C_nil _ _) (by decide)).mono ?_
    rintro e w' ⟨v, rfl, hR, hB⟩
    have HR := Aside0.mk hR
    have HB := Aside0.mk hB
    clear hR hB
    go_wp2
    go_ret
    exact ⟨_, rfl, HR.out, HB.out⟩
set_option maxRecDepth 100000 in
theorem octets_Reader_Raw.calls (g : Nat) (row : Option Nat) (s : List Int × Int) (n : Nat) (w : World) (hn : n ≤ 140737488355328) (hs : RS w g row s) :
    Calls Try.prog 105 #[.pointer (some ⟨g, 0, none⟩), .int .i64 (n : Int)] w fun e w' => ∃ v, e = .returned v ∧ Kd.R (Kd.int .u8) 5 w' w.heap.size (fun _ => True) v (rTake s n).1 ∧ RPost w g row (rTake s n).2.2 w' := by
  have HT := Aside0.mk (octets_Reader_take.calls g row s n w (by omega) hs)
  have hl : (rTake s n).1.length ≤ n := by unfold rTake; split; simp; split; simp; simp only [List.length_take]; omega
  have hg : Aside0 (g < w.heap.size) := by obtain ⟨A, c, hb, _⟩ := hs; exact ⟨blk_lt hb⟩
  have hro : Aside0 (row ≠ some g) := by obtain ⟨A, c, hb, _, _, _, h, _⟩ := hs; exact ⟨h⟩
  clear hs
  generalize rTake s n = T at *
  obtain ⟨xs, ok, st⟩ := T
  simp only at hl HT ⊢
  go_enter Try.func105, Try.ntmps105
  go_wp2_with fail
  refine HT.out.mono ?_
  rintro e w' ⟨A, c, rfl, hC, hlc, hY, hP⟩
  have HC := Aside0.mk hC
  have HP := Aside0.mk hP
  clear hC hY hP
  go_wp2_with fail
  refine (bytes_Clone.calls A c xs w' HC.out (by omega)).mono ?_
  rintro e w2 ⟨v, rfl, hR, hB⟩
  have HR := Aside0.mk hR
  have HB := Aside0.mk hB
  clear hR hB
  go_wp2
  go_ret
  have hP := HP.out
  refine ⟨v, rfl, Kd.R_lower HR.out hP.2.size, hP.1.fr (S := fun _ => False) (Fr.of_below HB.out _) (fun h => h) (fun _ _ h => h), hP.2.trans (Fr.of_below HB.out _) (fun _ _ h => h)⟩
theorem rUint_range (s : List Int × Int) (k : Int) (h : Byt s.1) : 0 ≤ (rUint s k).1 ∧ (rUint s k).1 < 18446744073709551616 := by
  unfold rUint
  split
  · exact ⟨by simp, by simp⟩
  · have hb : Byt (rTake s k.toNat).1 := by unfold rTake; split; exact Byt.nil; split; exact Byt.nil; exact h.take _
    have hl : (rTake s k.toNat).1.length ≤ 8 := by unfold rTake; split; simp; split; simp; simp only [List.length_take]; omega
    have h1 := beNum_range _ hb
    have h2 : 256 ^ (rTake s k.toNat).1.length ≤ 256 ^ 8 := Nat.pow_le_pow_right (by decide) hl
    have h3 : 256 ^ 8 = 18446744073709551616 := by decide
    simp only
    omega
set_option maxRecDepth 100000 in
theorem octets_Reader_Int.calls (g : Nat) (row : Option Nat) (s : List Int × Int) (w : World) (hs : RS w g row s) :
    Calls Try.prog 117 #[.pointer (some ⟨g, 0, none⟩)] w fun e w' => e = .returned (.int .i64 (unzig (rUint s 8).1)) ∧ RPost w g row (rUint s 8).2 w' := by
  have HT := Aside0.mk (octets_Reader_Uint.calls g row s 8 w hs)
  have hr := rUint_range s 8 (by obtain ⟨A, c, _, _, _, _, _, h⟩ := hs; exact h)
  clear hs
  generalize rUint s 8 = T at *
  obtain ⟨n, st⟩ := T
  simp only at HT hr ⊢
  have HX := Aside0.mk (unzig_bits n hr.1 hr.2)
  clear hr
  go_enter Try.func117, Try.ntmps117
  go_wp2_with fail
  refine HT.out.mono ?_
  rintro e w' ⟨rfl, hP⟩
  have HP := Aside0.mk hP
  clear hP
  go_wp2
  go_ret
  exact ⟨by show Ending.returned (Value.int IntKind.i64 _) = _; rw [HX.out], HP.out⟩

/-- A Num, from group i on. -/
def numGo : Nat → Nat → Int → List Int → Int × (List Int × Int)
  | 0, _, _, bs => (0, (bs, 4))
  | _ + 1, _, _, [] => (0, ([], 3))
  | k + 1, i, n, b :: bs =>
    if i = 9 ∧ 1 < b % 128 then (0, (bs, 4))
    else if 128 ≤ b then numGo k (i + 1) (n + b % 128 * ((128 ^ i : Nat) : Int)) bs
    else if b % 128 = 0 ∧ 0 < i then (0, (bs, 4)) else (n + b % 128 * ((128 ^ i : Nat) : Int), (bs, 0))
def rNum (s : List Int × Int) : Int × (List Int × Int) := if s.2 ≠ 0 then (0, s) else numGo 10 0 0 s.1

theorem rTake_one (b : Int) (bs : List Int) : rTake (b :: bs, 0) 1 = ([b], true, (bs, 0)) := by
  unfold rTake
  rw [if_neg (by simp), if_neg (by simp)]
  rfl
theorem rTake_nil : rTake ([], 0) 1 = ([], false, ([], 3)) := by simp [rTake]
theorem take_nil1 (g : Nat) (row : Option Nat) (w : World) (hs : RS w g row ([], 0)) :
    Calls Try.prog 132 #[.pointer (some ⟨g, 0, none⟩), .int .i64 1] w fun e w' => ∃ A c, e = .returned (.tuple #[.slice A 0 c, .bool false]) ∧ RPost w g row ([], 3) w' := by
  have h := octets_Reader_take.calls g row ([], 0) 1 w (by decide) hs
  rw [rTake_nil] at h
  exact h.mono fun e w' ⟨A, c, he, _, _, _, hp⟩ => ⟨A, c, he, hp⟩
theorem take_cons1 (g : Nat) (row : Option Nat) (b : Int) (bs : List Int) (w : World) (hs : RS w g row (b :: bs, 0)) :
    Calls Try.prog 132 #[.pointer (some ⟨g, 0, none⟩), .int .i64 1] w fun e w' => ∃ ad c, e = .returned (.tuple #[.slice (some ad) 1 c, .bool true]) ∧ w'.cell? ad = some (.int .u8 b) ∧ RPost w g row (bs, 0) w' := by
  have h := octets_Reader_take.calls g row (b :: bs, 0) 1 w (by decide) hs
  rw [rTake_one] at h
  refine h.mono fun e w' ⟨A, c, he, hC, _, _, hp⟩ => ?_
  obtain ⟨ad, rfl, hcell⟩ := (Kd.reads_of_C (d := (0 : Int)) hC).2.2 (by simp)
  have h0 := hcell 0 (by simp)
  rw [show ad.add 0 = ad from rfl] at h0
  exact ⟨ad, c, he, h0, hp⟩
set_option maxRecDepth 100000 in
set_option maxHeartbeats 1000000 in
theorem octets_Reader_Num.calls (g : Nat) (row : Option Nat) (s : List Int × Int) (w : World) (hs : RS w g row s) :
    Calls Try.prog 100 #[.pointer (some ⟨g, 0, none⟩)] w fun e w' => e = .returned (.int .u64 (rNum s).1) ∧ RPost w g row (rNum s).2 w' := by
  have HS := Aside0.mk hs
  clear hs
  obtain ⟨bs, f⟩ := s
  by_cases hf : f = 0
  · subst hf
    have HN : Aside0 (rNum (bs, 0) = numGo 10 0 0 bs) := ⟨by simp [rNum]⟩
    rw [HN.out]
    clear HN
    generalize hT : numGo 10 0 0 bs = T
    obtain ⟨r, st⟩ := T
    have HT := Aside0.mk hT
    clear hT
    simp only
    go_enter Try.func100, Try.ntmps100
    have hmf : ∀ (fn : Fn) (first cap : Array Value) (w : World), (Instr.makeFunc fn first cap).run Try.prog w = .ok (.func fn first cap) w := fun _ _ _ _ => rfl
    go_wp2
    go_step3
    go_wp2
    go_step3
    go_wp2
    clear hmf
    go_loopw [2, 4] (fun v2 v4 wr => ∃ (i k : Nat) (n : Int) (xs : List Int), v4 = .int .i64 i ∧ v2 = .int .u64 n ∧ i + k = 10 ∧ 0 ≤ n ∧ Aside0 (n < ((128 ^ i : Nat) : Int)) ∧ Aside0 (numGo k i n xs = (r, st)) ∧ Aside0 (RPost w g row (xs, 0) wr)) (fun _ v4 _ => 10 - (intOf v4).toNat)
    case atStart => exact ⟨0, 10, 0, bs, rfl, rfl, by omega, by omega, ⟨by decide⟩, HT, ⟨HS.out, Fr.refl _ _⟩⟩
    case round =>
      obtain ⟨i, k, n, xs, rfl, rfl, hik, hn0, HN, HG, HP⟩ := hrel
      by_cases h10 : i < 10
      · obtain ⟨k, rfl⟩ : ∃ m, k = m + 1 := ⟨k - 1, by omega⟩
        cases xs with
        | nil =>
          have HC := Aside0.mk (take_nil1 g row wr HP.out.1)
          go_wp2_with fail
          refine HC.out.mono ?_
          rintro e w1 ⟨A, c, rfl, hp⟩
          have HP1 := Aside0.mk hp
          clear hp
          go_wp2
          rw [Exit.noGoto_ret]
          go_ret
          obtain ⟨rfl, rfl⟩ := Prod.mk.inj HG.out
          exact ⟨rfl, HP1.out.1, HP.out.2.trans HP1.out.2 (fun _ _ h => h)⟩
        | cons b xs =>
          have HC := Aside0.mk (take_cons1 g row b xs wr HP.out.1)
          have hbr : 0 ≤ b ∧ b ≤ 255 := by obtain ⟨_, _, _, _, _, _, _, h⟩ := HP.out.1; exact h.cons.1
          have hb0 := hbr.1
          have hb1 := hbr.2
          have hand := andNot128 b hb0 hb1
          clear hbr
          by_cases h9 : i = 9 ∧ 1 < b % 128
          · go_wp2_with fail
            refine HC.out.mono ?_
            rintro e w1 ⟨ad, c, rfl, hcell, hp⟩
            have HP1 := Aside0.mk hp
            clear hp
            go_wp2_with fail
            refine (octets_Reader_bad.at_ g row (xs, 0) w1 HP1.out.1).mono ?_
            rintro e w2 ⟨rfl, hp⟩
            have HP2 := Aside0.mk hp
            clear hp
            go_wp2
            rw [Exit.noGoto_ret]
            go_ret
            have h2 := HG.out
            rw [numGo, if_pos h9] at h2
            obtain ⟨rfl, rfl⟩ := Prod.mk.inj h2
            exact ⟨rfl, HP2.out.1, HP.out.2.trans (HP1.out.2.trans HP2.out.2 (fun _ _ h => h)) (fun _ _ h => h)⟩
          · have HH := Aside0.mk (or_high n (b % 128) i (by omega) hn0 HN.out (by omega) (by omega) (by omega))
            have HG2 : Aside0 ((if 128 ≤ b then numGo k (i + 1) (n + b % 128 * ((128 ^ i : Nat) : Int)) xs
    else if b % 128 = 0 ∧ 0 < i then (0, (xs, 4)) else (n + b % 128 * ((128 ^ i : Nat) : Int), (xs, 0))) = (r, st)) := ⟨by have h := HG.out; rw [numGo, if_neg h9] at h; exact h⟩
            clear HG
            have h90 : (decide (i = 9) && decide (1 < b % 128)) = false := by simpa using h9
            have hs0 : 0 ≤ 7 * (i : Int) := by omega
            have hs1 : 7 * (i : Int) ≤ 64 := by omega
            by_cases h128 : 128 ≤ b
            · by_cases hi9 : i = 9
              · have h91 : ¬ 1 < b % 128 := fun h => h9 ⟨hi9, h⟩
                subst hi9
                go_wp2_with fail
                refine HC.out.mono ?_
                rintro e w1 ⟨ad, c, rfl, hcell, hp⟩
                have HP1 := Aside0.mk hp
                clear hp
                go_wp2
                have he : bits BinOp.or IntKind.u64 n (b % 128 * 9223372036854775808) = n + b % 128 * ((128 ^ 9 : Nat) : Int) := by
                  have h := HH.out.1
                  rw [show IntKind.u64.wrap (b % 128 * 2 ^ (7 * 9)) = b % 128 * 9223372036854775808 by rw [wrap_u64]; omega] at h
                  exact h
                go_roundw
                case rel => exact ⟨10, k, _, xs, rfl, rfl, by omega, by rw [he]; exact HH.out.2.2.1, ⟨by rw [he]; exact HH.out.2.2.2⟩, ⟨by have h := HG2.out; rw [if_pos h128] at h; rw [he]; exact h⟩, ⟨HP1.out.1, HP.out.2.trans HP1.out.2 (fun _ _ h => h)⟩⟩
                case measure => simp [intOf]
              · have hi9' : ((i : Int) == 9) = false := by simp; omega
                go_wp2_with fail
                refine HC.out.mono ?_
                rintro e w1 ⟨ad, c, rfl, hcell, hp⟩
                have HP1 := Aside0.mk hp
                clear hp
                go_wp2
                go_roundw
                case rel => exact ⟨i + 1, k, _, xs, rfl, rfl, by omega, by rw [HH.out.1]; exact HH.out.2.2.1, ⟨by rw [HH.out.1]; exact HH.out.2.2.2⟩, ⟨by have h := HG2.out; rw [if_pos h128] at h; rw [HH.out.1]; exact h⟩, ⟨HP1.out.1, HP.out.2.trans HP1.out.2 (fun _ _ h => h)⟩⟩
                case measure => simp [intOf]; omega
            · have hb2 : b % 128 = b := by omega
              have hb3 : b < 128 := by omega
              have HG3 : Aside0 ((if b % 128 = 0 ∧ 0 < i then (0, (xs, 4)) else (n + b % 128 * ((128 ^ i : Nat) : Int), (xs, 0))) = (r, st)) := ⟨by have h := HG2.out; rw [if_neg h128] at h; exact h⟩
              clear HG2 h128
              have HB2 := Aside0.mk hb2
              clear hb2
              by_cases hz : b % 128 = 0 ∧ 0 < i
              · have hz1 : b = 0 := by have := HB2.out; omega
                subst hz1
                have hi : 0 < i := hz.2
                have HZ := Aside0.mk hz
                clear hz hand h90 HH h9
                have hand : bits BinOp.andNot IntKind.u8 0 128 = 0 := by decide +kernel
                have hi0 : ((i : Int) == 0) = false := by simp; omega
                by_cases hi9 : i = 9
                · subst hi9
                  go_wp2_with fail
                  refine HC.out.mono ?_
                  rintro e w1 ⟨ad, c, rfl, hcell, hp⟩
                  have HP1 := Aside0.mk hp
                  clear hp
                  go_wp2_with fail
                  refine (octets_Reader_bad.at_ g row (xs, 0) w1 HP1.out.1).mono ?_
                  rintro e w2 ⟨rfl, hp⟩
                  have HP2 := Aside0.mk hp
                  clear hp
                  go_wp2
                  rw [Exit.noGoto_ret]
                  go_ret
                  have h2 := HG3.out
                  rw [if_pos HZ.out] at h2
                  obtain ⟨rfl, rfl⟩ := Prod.mk.inj h2
                  exact ⟨rfl, HP2.out.1, HP.out.2.trans (HP1.out.2.trans HP2.out.2 (fun _ _ h => h)) (fun _ _ h => h)⟩
                · have hi9' : ((i : Int) == 9) = false := by simp; omega
                  go_wp2_with fail
                  refine HC.out.mono ?_
                  rintro e w1 ⟨ad, c, rfl, hcell, hp⟩
                  have HP1 := Aside0.mk hp
                  clear hp
                  go_wp2_with fail
                  refine (octets_Reader_bad.at_ g row (xs, 0) w1 HP1.out.1).mono ?_
                  rintro e w2 ⟨rfl, hp⟩
                  have HP2 := Aside0.mk hp
                  clear hp
                  go_wp2
                  rw [Exit.noGoto_ret]
                  go_ret
                  have h2 := HG3.out
                  rw [if_pos HZ.out] at h2
                  obtain ⟨rfl, rfl⟩ := Prod.mk.inj h2
                  exact ⟨rfl, HP2.out.1, HP.out.2.trans (HP1.out.2.trans HP2.out.2 (fun _ _ h => h)) (fun _ _ h => h)⟩
              · have HV : Aside0 ((n + b % 128 * ((128 ^ i : Nat) : Int), (xs, (0 : Int))) = (r, st)) := ⟨by have h := HG3.out; rw [if_neg hz] at h; exact h⟩
                clear HG3
                rcases Nat.eq_zero_or_pos i with hi | hi
                · subst hi
                  have hn1 : n = 0 := by have := HN.out; simp at this; omega
                  subst hn1
                  have HV2 : Aside0 ((b, (xs, (0 : Int))) = (r, st)) := ⟨by have h := HV.out; rw [HB2.out] at h; simpa using h⟩
                  have HO := Aside0.mk (or_zero b hb0 hb1)
                  clear hz h90 h9 HH HV
                  by_cases hb00 : b = 0
                  · subst hb00
                    clear hand
                    have hand : bits BinOp.andNot IntKind.u8 0 128 = 0 := by decide +kernel
                    go_wp2_with fail
                    refine HC.out.mono ?_
                    rintro e w1 ⟨ad, c, rfl, hcell, hp⟩
                    have HP1 := Aside0.mk hp
                    clear hp
                    go_wp2
                    rw [Exit.noGoto_ret]
                    go_ret
                    obtain ⟨rfl, rfl⟩ := Prod.mk.inj HV2.out
                    exact ⟨by show Ending.returned (Value.int IntKind.u64 _) = _; rw [HO.out], HP1.out.1, HP.out.2.trans HP1.out.2 (fun _ _ h => h)⟩
                  · have hb4 : (b == 0) = false := by simpa using hb00
                    have hand2 : bits BinOp.andNot IntKind.u8 b 128 = b := hand.trans HB2.out
                    clear hand
                    go_wp2_with fail
                    refine HC.out.mono ?_
                    rintro e w1 ⟨ad, c, rfl, hcell, hp⟩
                    have HP1 := Aside0.mk hp
                    clear hp
                    go_wp2
                    rw [Exit.noGoto_ret]
                    go_ret
                    obtain ⟨rfl, rfl⟩ := Prod.mk.inj HV2.out
                    exact ⟨by show Ending.returned (Value.int IntKind.u64 _) = _; rw [HO.out], HP1.out.1, HP.out.2.trans HP1.out.2 (fun _ _ h => h)⟩
                · have hb5 : 0 < b := by
                    rcases Int.lt_or_le 0 b with h | h
                    · exact h
                    · exact absurd ⟨by have := HB2.out; omega, hi⟩ hz
                  have hb4 : (b == 0) = false := by simp; omega
                  have hand2 : bits BinOp.andNot IntKind.u8 b 128 = b := hand.trans HB2.out
                  have HV2 : Aside0 ((n + b * ((128 ^ i : Nat) : Int), (xs, (0 : Int))) = (r, st)) := ⟨by have h := HV.out; rw [HB2.out] at h; exact h⟩
                  have HH2 : Aside0 (bits BinOp.or IntKind.u64 n (IntKind.u64.wrap (b * 2 ^ (7 * i))) = n + b * ((128 ^ i : Nat) : Int)) := ⟨by have h := HH.out.1; rw [HB2.out] at h; exact h⟩
                  have h91 : i = 9 → b ≤ 1 := fun h => by
                    rcases Int.lt_or_le 1 b with h2 | h2
                    · exact absurd ⟨h, by rw [HB2.out]; exact h2⟩ h9
                    · exact h2
                  clear hand hz h90 h9 HH HV
                  have hi0 : ((i : Int) == 0) = false := by simp; omega
                  by_cases hi9 : i = 9
                  · subst hi9
                    have hb1' : b = 1 := by have := h91 rfl; omega
                    subst hb1'
                    have he : bits BinOp.or IntKind.u64 n 9223372036854775808 = n + 1 * ((128 ^ 9 : Nat) : Int) := by
                      have h := HH2.out
                      rw [show IntKind.u64.wrap (1 * 2 ^ (7 * 9)) = 9223372036854775808 by rw [wrap_u64]; decide] at h
                      exact h
                    have HE := Aside0.mk he
                    clear he h91
                    go_wp2_with fail
                    refine HC.out.mono ?_
                    rintro e w1 ⟨ad, c, rfl, hcell, hp⟩
                    have HP1 := Aside0.mk hp
                    clear hp
                    go_wp2
                    rw [Exit.noGoto_ret]
                    go_ret
                    obtain ⟨rfl, rfl⟩ := Prod.mk.inj HV2.out
                    exact ⟨by show Ending.returned (Value.int IntKind.u64 _) = _; rw [HE.out], HP1.out.1, HP.out.2.trans HP1.out.2 (fun _ _ h => h)⟩
                  · have hi9' : ((i : Int) == 9) = false := by simp; omega
                    clear h91
                    go_wp2_with fail
                    refine HC.out.mono ?_
                    rintro e w1 ⟨ad, c, rfl, hcell, hp⟩
                    have HP1 := Aside0.mk hp
                    clear hp
                    go_wp2
                    rw [Exit.noGoto_ret]
                    go_ret
                    obtain ⟨rfl, rfl⟩ := Prod.mk.inj HV2.out
                    exact ⟨by show Ending.returned (Value.int IntKind.u64 _) = _; rw [HH2.out], HP1.out.1, HP.out.2.trans HP1.out.2 (fun _ _ h => h)⟩
      · have hi : i = 10 := by omega
        subst hi
        obtain rfl : k = 0 := by omega
        have h2 := HG.out
        rw [numGo] at h2
        have H2 := Aside0.mk h2
        clear h2
        go_wp2_with fail
        refine (octets_Reader_bad.at_ g row (xs, 0) wr HP.out.1).mono ?_
        rintro e w2 ⟨rfl, hp⟩
        have HP2 := Aside0.mk hp
        clear hp
        go_wp2
        rw [Exit.noGoto_ret]
        go_ret
        obtain ⟨rfl, rfl⟩ := Prod.mk.inj H2.out
        exact ⟨rfl, HP2.out.1, HP.out.2.trans HP2.out.2 (fun _ _ h => h)⟩
  · have HT : Aside0 (Calls Try.prog 132 #[.pointer (some ⟨g, 0, none⟩), .int .i64 1] w fun e w' => ∃ A c, e = .returned (.tuple #[.slice A 0 c, .bool false]) ∧ RPost w g row (bs, f) w') := by
      have h := octets_Reader_take.calls g row (bs, f) 1 w (by decide) HS.out
      rw [show rTake (bs, f) 1 = ([], false, (bs, f)) by simp [rTake, hf]] at h
      exact ⟨h.mono fun e w' ⟨A, c, he, _, _, _, hp⟩ => ⟨A, c, he, hp⟩⟩
    have HN : Aside0 (rNum (bs, f) = (0, (bs, f))) := ⟨by simp [rNum, hf]⟩
    rw [HN.out]
    clear HN hf
    have hmf : ∀ (fn : Fn) (first cap : Array Value) (w : World), (Instr.makeFunc fn first cap).run Try.prog w = .ok (.func fn first cap) w := fun _ _ _ _ => rfl
    go_enter Try.func100, Try.ntmps100
    go_wp2
    go_step3
    go_wp2
    go_step3
    go_wp2
    clear hmf
    refine wp_loop_rounds 1 ?_
    rw [rounds_succ]
    go_wp2_with fail
    refine HT.out.mono ?_
    rintro e w1 ⟨A, c, rfl, hp⟩
    have HP1 := Aside0.mk hp
    clear hp
    go_wp2
    rw [Exit.noGoto_ret]
    go_ret
    exact ⟨rfl, HP1.out⟩
theorem octets_Reader_Uint.nil (k : Int) (w : World) : Calls Try.prog 104 #[.pointer none, .int .i64 k] w fun e w' => e = .returned (.int .u64 0) ∧ w = w' := by
  by_cases h1 : k < 1
  · go_enter Try.func104, Try.ntmps104
    go_wp2
    go_ret
    exact ⟨rfl, rfl⟩
  by_cases h2 : 8 < k
  · go_enter Try.func104, Try.ntmps104
    go_wp2
    go_ret
    exact ⟨rfl, rfl⟩
  go_enter Try.func104, Try.ntmps104
  go_wp2_with fail
  refine (octets_Reader_take.nil k w).mono ?_
  rintro e w' ⟨rfl, rfl⟩
  go_wp2
  refine wp_loop_rounds 1 ?_
  rw [rounds_succ]
  go_wp2
  go_ret
  exact ⟨rfl, rfl⟩
theorem octets_Reader_Int.nil (w : World) : Calls Try.prog 117 #[.pointer none] w fun e w' => e = .returned (.int .i64 0) ∧ w = w' := by
  go_enter Try.func117, Try.ntmps117
  go_wp2_with fail
  refine (octets_Reader_Uint.nil 8 w).mono ?_
  rintro e w' ⟨rfl, rfl⟩
  have HX : Aside0 (bits BinOp.xor IntKind.i64 0 (wrap64 (-wrap64 (bits BinOp.and IntKind.u64 0 1))) = 0) := ⟨by decide +kernel⟩
  go_wp2
  go_ret
  exact ⟨by show Ending.returned (Value.int IntKind.i64 _) = _; rw [HX.out], rfl⟩
theorem octets_Reader_Num.nil (w : World) : Calls Try.prog 100 #[.pointer none] w fun e w' => e = .returned (.int .u64 0) ∧ w = w' := by
  have hmf : ∀ (fn : Fn) (first cap : Array Value) (w : World), (Instr.makeFunc fn first cap).run Try.prog w = .ok (.func fn first cap) w := fun _ _ _ _ => rfl
  go_enter Try.func100, Try.ntmps100
  go_wp2
  go_step3
  go_wp2
  go_step3
  go_wp2
  clear hmf
  refine wp_loop_rounds 1 ?_
  rw [rounds_succ]
  go_wp2_with fail
  refine (octets_Reader_take.nil 1 w).mono ?_
  rintro e w1 ⟨rfl, rfl⟩
  go_wp2
  rw [Exit.noGoto_ret]
  go_ret
  exact ⟨rfl, rfl⟩
end Go.Proofs.Ytalpemoodollpaa.P
/- The contracts of frame.Put and frame.Take. -/
namespace Go.Proofs.Ytalpemoodollpaa.P
open Go.RowKit Go.Proofs.YtalpemoodollpaaW.PrintWords Go.Proofs.YtalpemoodollpaaW.PrintLast Go.Proofs.YtalpemoodollpaaW.PrintMore
set_option linter.unusedVariables false
set_option linter.unusedSimpArgs false

/-- Are bytes bytes? -/
def bytB (bs : List Int) : Bool := bs.all fun b => decide (0 ≤ b) && decide (b ≤ 255)
theorem byt_of {bs : List Int} (h : bytB bs = true) : Byt bs := fun b hb => by
  have := List.all_eq_true.1 h b hb
  simpa using this
theorem bytB_of {bs : List Int} (h : Byt bs) : bytB bs = true := List.all_eq_true.2 fun b hb => by simpa using h b hb

/-- A new writer. -/
theorem WS.new (w : World) : WS (w.alloc (.cells #[.slice none 0 0] 39)) w.heap.size none [] :=
  ⟨.slice none 0 0, blk_new w _, rfl, own_nil _ _ _ _⟩
theorem WPost.ws {w w' : World} {g : Nat} {row : Option Nat} {xs : List Int} (h : WPost w g row xs w') : ∃ row', WS w' g row' xs ∧ (row' = row ∨ ∃ b, row' = some b ∧ w.heap.size ≤ b) ∧ Fr w w' (fun k => k = g ∨ row = some k) := h
/-- A chain of calls on a writer of one's own: what it leaves below. -/
theorem WPost.below {w0 w w' : World} {g : Nat} {row : Option Nat} {xs : List Int} (hB : Below w0.heap.size w0 w) (hg : w0.heap.size ≤ g) (hr : ∀ k, row = some k → w0.heap.size ≤ k) (h : WPost w g row xs w') :
    ∃ row', WS w' g row' xs ∧ Below w0.heap.size w0 w' ∧ ∀ k, row' = some k → w0.heap.size ≤ k := by
  obtain ⟨row', hs, hro, hf⟩ := h
  refine ⟨row', hs, hB.trans (hf.below hB.size ?_), ?_⟩
  · rintro k (rfl | hk)
    · exact hg
    · exact hr k hk
  · intro k hk
    rcases hro with rfl | ⟨b, hb, hl⟩
    · exact hr k hk
    · rw [hb] at hk
      injection hk with hk
      subst hk
      exact Nat.le_trans hB.size hl

def frame_Put.f (l0 : List Int) : Option (List Int × Int) := some (if l0.length ≤ 64 then (uintForm l0.length 2 ++ l0, 0) else ([], 9))
set_option maxRecDepth 100000 in
theorem frame_Put.calls (A0 : Option Addr) (c0 : Nat) (l0 : List Int) (r1 : List Int) (r2 : Int) (w : World) (hr0 : Kd.C (Kd.int .u8) w A0 l0.length l0) (hc0 : l0.length ≤ c0) (h : frame_Put.f l0 = some (r1, r2)) :
    Calls Try.prog 44 #[.slice A0 l0.length c0] w fun e w' => ∃ v0_ : Value, e = .returned (.tuple #[v0_, .int .i64 r2]) ∧ Kd.R (Kd.int .u8) 5 w' w.heap.size (fun _ => True) v0_ r1 ∧ Below w.heap.size w w' := by
  have HR := Aside0.mk hr0
  have hbd := C_bound hr0
  clear hr0
  have H := Option.some.inj h
  clear h
  by_cases hl : l0.length ≤ 64
  · rw [if_pos hl] at H
    obtain ⟨rfl, rfl⟩ := Prod.mk.inj H
    clear H
    have HS := Aside0.mk (WS.new w)
    have HB0 := Aside0.mk (below_alloc (Below.refl w.heap.size w) (.cells #[.slice none 0 0] 39))
    go_enter Try.func44, Try.ntmps44
    go_wp2_with fail
    refine (octets_Writer_Uint.calls w.heap.size none [] l0.length 2 _ (by omega) HS.out (by decide) (by decide) (by decide)).mono ?_
    rintro e w1 ⟨rfl, hp⟩
    obtain ⟨row1, hs1, hb1, hr1⟩ := hp.below HB0.out (Nat.le_refl _) (fun k hk => by cases hk)
    have HS1 := Aside0.mk hs1
    have HB1 := Aside0.mk hb1
    have HR1 := Aside0.mk hr1
    clear hp hs1 hb1 hr1
    go_wp2_with fail
    refine (octets_Writer_Raw.calls w.heap.size row1 _ l0 A0 c0 w1 HS1.out (Kd.C_below HR.out HB1.out) (by simp only [List.nil_append, uintForm_length]; simp; omega)).mono ?_
    rintro e w2 ⟨rfl, hp⟩
    obtain ⟨row2, hs2, hb2, hr2⟩ := hp.below HB1.out (Nat.le_refl _) HR1.out
    have HS2 := Aside0.mk hs2
    have HB2 := Aside0.mk hb2
    clear hp hs2 hb2 hr2
    go_wp2_with fail
    refine (octets_Writer_Bytes.calls w.heap.size row2 _ w2 HS2.out (by simp only [List.nil_append, List.length_append, uintForm_length]; simp; omega)).mono ?_
    rintro e w3 ⟨v, rfl, hR, hB⟩
    have HR3 := Aside0.mk (Kd.R_lower hR HB2.out.size)
    have HB3 := Aside0.mk (below_then HB2.out HB2.out.size hB)
    clear hR hB
    go_wp2
    go_ret2
    exact ⟨_, rfl, by simpa using HR3.out, HB3.out⟩
  · rw [if_neg hl] at H
    obtain ⟨rfl, rfl⟩ := Prod.mk.inj H
    clear H
    have hl2 : 64 < l0.length := by omega
    go_enter Try.func44, Try.ntmps44
    go_wp2
    go_ret2
    exact ⟨_, rfl, Kd.R_nil _ _ _ _ _, Below.refl _ _⟩

/-- The first frame of bytes: its payload, the bytes of both, or the fault. -/
def takeF (bs : List Int) : List Int × Int × Int :=
  if bs.length < 2 then ([], 0, 3) else if 64 < beNum (bs.take 2) then ([], 0, 4) else if (bs.length : Int) < 2 + beNum (bs.take 2) then ([], 0, 3)
  else ((bs.drop 2).take (beNum (bs.take 2)).toNat, 2 + beNum (bs.take 2), 0)
def frame_Take.f (l0 : List Int) : Option (List Int × Int × Int) := if bytB l0 = true ∧ l0.length ≤ 140737488355328 then some (takeF l0) else none
theorem rTake_ok (bs : List Int) (n : Nat) (h : n ≤ bs.length) : rTake (bs, 0) n = (bs.take n, true, (bs.drop n, 0)) := by simp [rTake, h]
theorem rTake_few (bs : List Int) (n : Nat) (h : bs.length < n) : rTake (bs, 0) n = ([], false, (bs, 3)) := by simp [rTake, h]
set_option maxRecDepth 100000 in
theorem frame_Take.calls (A0 : Option Addr) (c0 : Nat) (l0 : List Int) (r1 : List Int) (r2 r3 : Int) (w : World) (hr0 : Kd.C (Kd.int .u8) w A0 l0.length l0) (hc0 : l0.length ≤ c0) (h : frame_Take.f l0 = some (r1, r2, r3)) :
    Calls Try.prog 46 #[.slice A0 l0.length c0] w fun e w' => ∃ v0_ : Value, e = .returned (.tuple #[v0_, .int .i64 r2, .int .i64 r3]) ∧ Kd.R (Kd.int .u8) 5 w' w.heap.size (fun _ => True) v0_ r1 ∧ Below w.heap.size w w' := by
  have HR := Aside0.mk hr0
  have hbd := C_bound hr0
  clear hr0
  unfold frame_Take.f at h
  by_cases hp : bytB l0 = true ∧ l0.length ≤ 140737488355328
  · rw [if_pos hp] at h
    have HY := Aside0.mk (byt_of hp.1)
    have hl := hp.2
    clear hp
    have H := Aside0.mk (Option.some.inj h)
    clear h
    go_enter Try.func46, Try.ntmps46
    go_wp2_with fail
    refine (octets_NewReader.calls A0 c0 l0 w HR.out hl HY.out).mono ?_
    rintro e w1 ⟨g, row, rfl, hs, hb, hg, _, hr⟩
    have HS := Aside0.mk hs
    have HB := Aside0.mk hb
    have HG := Aside0.mk hg
    have HRW := Aside0.mk hr
    clear hs hb hg hr
    go_wp2_with fail
    have hU := octets_Reader_Uint.calls g row (l0, 0) 2 w1 HS.out
    by_cases h2 : l0.length < 2
    · have e1 : rUint (l0, 0) 2 = (0, (l0, 3)) := by rw [rUint, if_neg (by decide), show (2 : Int).toNat = 2 from rfl, rTake_few _ _ h2]; rfl
      rw [e1] at hU
      refine hU.mono ?_
      rintro e w2 ⟨rfl, hp⟩
      have HP := Aside0.mk hp
      clear hp hU e1
      go_wp2_with fail
      refine (octets_Reader_Fault.calls g row (l0, 3) w2 HP.out.1).mono ?_
      rintro e w3 ⟨rfl, rfl⟩
      go_wp2
      go_ret3
      obtain ⟨rfl, rfl, rfl⟩ : r1 = [] ∧ r2 = 0 ∧ r3 = 3 := by have h := H.out; rw [takeF, if_pos h2] at h; simp only [Prod.mk.injEq] at h; exact ⟨h.1.symm, h.2.1.symm, h.2.2.symm⟩
      exact ⟨_, rfl, Kd.R_nil _ _ _ _ _, HB.out.trans (HP.out.2.below HB.out.size (fun k hk => by rw [hk]; exact HG.out))⟩
    · have e1 : rUint (l0, 0) 2 = (beNum (l0.take 2), (l0.drop 2, 0)) := by rw [rUint, if_neg (by decide), show (2 : Int).toNat = 2 from rfl, rTake_ok _ _ (by omega)]
      have hrg := beNum_range (l0.take 2) (HY.out.take 2)
      have hrl : (l0.take 2).length = 2 := by rw [List.length_take]; omega
      rw [hrl] at hrg
      have hn0 := hrg.1
      have hn1 : beNum (l0.take 2) < 65536 := hrg.2
      have hld : ((l0.drop 2).length : Int) = (l0.length : Int) - 2 := by rw [List.length_drop]; omega
      rw [e1] at hU
      have H2 : Aside0 ((if 64 < beNum (l0.take 2) then (([] : List Int), (0 : Int), (4 : Int)) else if (l0.length : Int) < 2 + beNum (l0.take 2) then ([], 0, 3) else ((l0.drop 2).take (beNum (l0.take 2)).toNat, 2 + beNum (l0.take 2), 0)) = (r1, r2, r3)) := ⟨by have h := H.out; rw [takeF, if_neg h2] at h; exact h⟩
      clear hrg hrl e1 H
      generalize beNum (l0.take 2) = n at *
      have HLD := Aside0.mk hld
      clear hld
      refine hU.mono ?_
      rintro e w2 ⟨rfl, hp⟩
      have HP := Aside0.mk hp
      clear hp hU
      go_wp2_with fail
      refine (octets_Reader_Fault.calls g row (l0.drop 2, 0) w2 HP.out.1).mono ?_
      rintro e w3 ⟨rfl, rfl⟩
      by_cases h64 : 64 < n
      · go_wp2
        go_ret3
        have h := H2.out
        rw [if_pos h64] at h
        simp only [Prod.mk.injEq] at h
        obtain ⟨rfl, rfl, rfl⟩ := h
        exact ⟨_, rfl, Kd.R_nil _ _ _ _ _, HB.out.trans (HP.out.2.below HB.out.size (fun k hk => by rw [hk]; exact HG.out))⟩
      · have H64 := Aside0.mk h64
        go_wp2_with fail
        refine (octets_Reader_Left.calls g row (l0.drop 2, 0) w2 HP.out.1).mono ?_
        rintro e w3 ⟨rfl, rfl⟩
        dsimp only
        rw [HLD.out]
        by_cases hls : (l0.length : Int) < 2 + n
        · go_wp2
          go_ret3
          have h := H2.out
          rw [if_neg (by have := H64.out; omega), if_pos hls] at h
          simp only [Prod.mk.injEq] at h
          obtain ⟨rfl, rfl, rfl⟩ := h
          exact ⟨_, rfl, Kd.R_nil _ _ _ _ _, HB.out.trans (HP.out.2.below HB.out.size (fun k hk => by rw [hk]; exact HG.out))⟩
        · have HLS := Aside0.mk hls
          obtain ⟨m, rfl⟩ := Int.eq_ofNat_of_zero_le hn0
          have HW := Aside0.mk (octets_Reader_Raw.calls g row (l0.drop 2, 0) m w2 (by omega) HP.out.1)
          rw [rTake_ok (l0.drop 2) m (by rw [List.length_drop]; omega)] at HW
          have hm : m ≤ 64 := by omega
          clear hn1 hl hbd hn0 h64
          go_wp2_with fail
          refine HW.out.mono ?_
          rintro e w3 ⟨v, rfl, hR, hp⟩
          have HR3 := Aside0.mk hR
          have HP3 := Aside0.mk hp
          clear hR hp
          go_wp2
          go_ret3
          have h := H2.out
          rw [if_neg (by have := H64.out; omega), if_neg (by have := HLS.out; omega)] at h
          simp only [Prod.mk.injEq, Int.toNat_natCast] at h
          obtain ⟨rfl, rfl, rfl⟩ := h
          have hb2 := HB.out.trans (HP.out.2.below HB.out.size (fun k hk => by rw [hk]; exact HG.out))
          exact ⟨_, rfl, Kd.R_lower HR3.out hb2.size, hb2.trans (HP3.out.2.below hb2.size (fun k hk => by rw [hk]; exact HG.out))⟩
  · rw [if_neg hp] at h
    cases h
end Go.Proofs.Ytalpemoodollpaa.P
-- Printed by hookprint.py (the session's own program, over the kit's print.py): checked by Lean like any text.
namespace Go.Proofs.Ytalpemoodollpaa.P
open Go.RowKit Go.Proofs.YtalpemoodollpaaW.PrintWords Go.Proofs.YtalpemoodollpaaW.PrintLast Go.Proofs.YtalpemoodollpaaW.PrintMore
attribute [local go_sem] max2_int min2_int max_two min_two max_three min_three max_four min_four   -- for this text's walks alone
set_option linter.unusedVariables false
set_option linter.unusedSimpArgs false

/-! ### damperref03_Same: function 31 -/
def damperref03_Same.f (l0 : List Int) (l1 : List Int) : Option (Bool) := some ((strOfNums l0).toList == (strOfNums l1).toList)
set_option maxHeartbeats 8000000 in
set_option maxRecDepth 100000 in
theorem damperref03_Same.calls (A0 : Option Addr) (c0 : Nat) (l0 : List Int) (A1 : Option Addr) (c1 : Nat) (l1 : List Int) (r : Bool) (w : World) (hr0 : Kd.C (Kd.int .u8) w A0 l0.length l0) (hc0 : l0.length ≤ c0) (hr1 : Kd.C (Kd.int .u8) w A1 l1.length l1) (hc1 : l1.length ≤ c1) (h : damperref03_Same.f l0 l1 = some r) :
    Calls Try.prog 31 #[.slice A0 l0.length c0, .slice A1 l1.length c1] w fun e w' => e = .returned (.bool r) ∧ Drawn0 w w' := by
  have HR0 := Aside0.mk hr0
  have HC0 := Aside0.mk hc0
  clear hr0 hc0
  have HR1 := Aside0.mk hr1
  have HC1 := Aside0.mk hc1
  clear hr1 hc1
  have H : (some ((strOfNums l0).toList == (strOfNums l1).toList)) = some r := h
  clear h
  obtain rfl := Option.some.inj H
  have hcv3 := Kd.C_string (P := Try.prog) (A := A0) (c := c0) Try.underlying30 Try.underlying5 Try.underlying9 HR0.out
  have hcv4 := Kd.C_string (P := Try.prog) (A := A1) (c := c1) Try.underlying30 Try.underlying5 Try.underlying9 HR1.out
  go_enter Try.func31, Try.ntmps31
  go_wp2
  go_ret
  exact ⟨by first | rfl | (simp; done) | (simp [*]; done), by repeat (first | exact Drawn0.refl _ | apply Drawn0.step)⟩

end Go.Proofs.Ytalpemoodollpaa.P
/- The first chapter's example (octets): it holds. Bytes that are the same. -/
namespace Go.Proofs.Ytalpemoodollpaa.P
open Go.RowKit Go.Proofs.YtalpemoodollpaaW.PrintWords Go.Proofs.YtalpemoodollpaaW.PrintLast Go.Proofs.YtalpemoodollpaaW.PrintMore
set_option linter.unusedVariables false
set_option linter.unusedSimpArgs false

theorem R_open {W : World} {base : Nat} {ok : Nat → Prop} {v : Value} {xs : List Int} (h : Kd.R (Kd.int .u8) 5 W base ok v xs) :
    ∃ A c, v = .slice A xs.length c ∧ xs.length ≤ c ∧ Kd.C (Kd.int .u8) W A xs.length xs ∧ ∀ k, A.map (·.block) = some k → base ≤ k ∧ k < W.heap.size := by
  obtain ⟨A, c, rfl, hl, hC⟩ := Kd.R_reads h
  have hb := Kd.R_bound h
  refine ⟨A, c, rfl, hl, hC, fun k hk => ?_⟩
  have := hb.1 k (by cases A <;> simp_all [Value.ownBlock])
  exact ⟨this.2.1, this.2.2.1⟩
theorem C_cell {W : World} {A : Option Addr} {xs : List Int} (h : Kd.C (Kd.int .u8) W A xs.length xs) (hp : 0 < xs.length) : ∃ ad, A = some ad ∧ ∀ j, j < xs.length → W.cell? (ad.add j) = some (.int .u8 (xs.getD j 0)) :=
  (Kd.reads_of_C (d := (0 : Int)) h).2.2 hp

def damperlaw03_alive.f : Option Bool := some true
set_option maxRecDepth 100000 in
set_option maxHeartbeats 1000000 in
theorem damperlaw03_alive.calls (r : Bool) (w : World) (h : damperlaw03_alive.f = some r) :
    Calls Try.prog 39 #[] w fun e w' => e = .returned (.bool r) ∧ Below w.heap.size w w' := by
  obtain rfl := Option.some.inj h
  clear h
  have HS := Aside0.mk (WS.new w)
  have HB0 := Aside0.mk (below_alloc (Below.refl w.heap.size w) (.cells #[.slice none 0 0] 39))
  go_enter Try.func39, Try.ntmps39
  go_wp2_with fail
  refine (octets_Writer_Num.calls w.heap.size none [] 300 _ (by decide) HS.out (by decide +kernel)).mono ?_
  rintro e w1 ⟨rfl, hp⟩
  obtain ⟨row1, hs1, hb1, hr1⟩ := WPost.below HB0.out (Nat.le_refl _) (fun k hk => by cases hk) hp
  have HS1 := Aside0.mk hs1
  have HB1 := Aside0.mk hb1
  have HR1 := Aside0.mk hr1
  clear hp hs1 hb1 hr1
  go_wp2_with fail
  refine (octets_Writer_Int.calls w.heap.size row1 _ (-1) w1 (by decide) (by decide) HS1.out (by decide +kernel)).mono ?_
  rintro e w2 ⟨rfl, hp⟩
  obtain ⟨row2, hs2, hb2, hr2⟩ := hp.below HB1.out (Nat.le_refl _) HR1.out
  have he : [] ++ numForm (300 : Int).toNat ++ intForm (-1) = [172, 2, 0, 0, 0, 0, 0, 0, 0, 1] := by decide +kernel
  rw [he] at hs2
  have HS2 := Aside0.mk hs2
  have HB2 := Aside0.mk hb2
  clear hp hs2 hb2 hr2 he
  go_wp2_with fail
  refine (octets_Writer_Bytes.calls w.heap.size row2 _ w2 HS2.out (by decide)).mono ?_
  rintro e w3 ⟨v, rfl, hR, hB⟩
  obtain ⟨A, c, rfl, hlc, hC, hk⟩ := R_open hR
  obtain ⟨ad, rfl, hcell⟩ := C_cell hC (by decide)
  have h0 : w3.cell? ad = some (.int .u8 172) := hcell 0 (by decide)
  have h1 : w3.cell? ⟨ad.block, ad.off + 1, none⟩ = some (.int .u8 2) := hcell 1 (by decide)
  have h9 : w3.cell? ⟨ad.block, ad.off + 9, none⟩ = some (.int .u8 1) := hcell 9 (by decide)
  have HC := Aside0.mk hC
  have HB3 := Aside0.mk (below_then HB2.out HB2.out.size hB)
  clear hR hB hC hk hcell
  go_wp2_with fail
  refine (octets_NewReader.calls (some ad) c [172, 2, 0, 0, 0, 0, 0, 0, 0, 1] w3 HC.out (by decide) (byt_of (by decide))).mono ?_
  rintro e w4 ⟨g, row, rfl, hs, hb, hg, _, _⟩
  have HN := octets_Reader_Num.calls g row ([172, 2, 0, 0, 0, 0, 0, 0, 0, 1], 0) w4 hs
  have he : rNum ([172, 2, 0, 0, 0, 0, 0, 0, 0, 1], 0) = (300, ([0, 0, 0, 0, 0, 0, 0, 1], 0)) := by decide +kernel
  rw [he] at HN
  have HN2 := Aside0.mk HN
  have HB4 := Aside0.mk (below_then HB3.out HB3.out.size hb)
  have HG := Aside0.mk (Nat.le_trans HB3.out.size hg)
  clear hs hb hg he HN
  go_wp2_with fail
  refine HN2.out.mono ?_
  rintro e w5 ⟨rfl, hp⟩
  have HB5 := Aside0.mk (HB4.out.trans (hp.2.below HB4.out.size (fun k hk => by rw [hk]; exact HG.out)))
  clear hp
  go_wp2
  go_ret
  exact ⟨rfl, HB5.out⟩

theorem strOfNums_inj {a b : List Int} (ha : Byt a) (hb : Byt b) (h : (strOfNums a).toList = (strOfNums b).toList) : a = b := by
  rw [ByteArray.toList_eq, ByteArray.toList_eq, strOfNums_data, strOfNums_data] at h
  have key : ∀ (a b : List Int), Byt a → Byt b → (a.map fun n => UInt8.ofNat n.toNat) = (b.map fun n => UInt8.ofNat n.toNat) → a = b := by
    intro a
    induction a with
    | nil => intro b _ _ h; cases b with
      | nil => rfl
      | cons y b => simp at h
    | cons x a ih => intro b ha hb h; cases b with
      | nil => simp at h
      | cons y b =>
        simp only [List.map_cons, List.cons.injEq] at h
        have h1 := congrArg UInt8.toNat h.1
        simp only [UInt8.toNat_ofNat'] at h1
        have hx := ha.cons.1
        have hy := hb.cons.1
        have : x = y := by omega
        rw [this, ih b ha.cons.2 hb.cons.2 h.2]
  exact key a b ha hb h
theorem same_f (a b : List Int) (ha : Byt a) (hb : Byt b) : damperref03_Same.f a b = some (decide (a = b)) := by
  unfold damperref03_Same.f
  congr 1
  by_cases h : a = b
  · subst h; simp
  · simp only [h, decide_false, beq_eq_false_iff_ne]
    exact fun e => h (strOfNums_inj ha hb e)
theorem same_calls (A0 : Option Addr) (c0 : Nat) (l0 : List Int) (A1 : Option Addr) (c1 : Nat) (l1 : List Int) (w : World) (hr0 : Kd.C (Kd.int .u8) w A0 l0.length l0) (hc0 : l0.length ≤ c0) (hr1 : Kd.C (Kd.int .u8) w A1 l1.length l1) (hc1 : l1.length ≤ c1) (ha : Byt l0) (hb : Byt l1) :
    Calls Try.prog 31 #[.slice A0 l0.length c0, .slice A1 l1.length c1] w fun e w' => e = .returned (.bool (decide (l0 = l1))) ∧ Drawn0 w w' :=
  damperref03_Same.calls A0 c0 l0 A1 c1 l1 _ w hr0 hc0 hr1 hc1 (same_f l0 l1 ha hb)
end Go.Proofs.Ytalpemoodollpaa.P
/- The bytes of numbers: they are bytes; unlike numbers have unlike bytes; no number's bytes begin another's. Writers that are left alone. -/
namespace Go.Proofs.Ytalpemoodollpaa.P
open Go.RowKit Go.Proofs.YtalpemoodollpaaW.PrintWords Go.Proofs.YtalpemoodollpaaW.PrintLast Go.Proofs.YtalpemoodollpaaW.PrintMore
set_option linter.unusedVariables false
set_option linter.unusedSimpArgs false

theorem numForm_byt (n : Nat) : Byt (numForm n) := by
  induction n using Nat.strongRecOn with
  | _ n ih =>
    rw [numForm]
    split
    · exact Byt.mk (by omega) Byt.nil
    · exact Byt.mk (by omega) (ih _ (by omega))
theorem uintForm_byt (n k : Nat) : Byt (uintForm n k) := by
  induction k with
  | zero => exact Byt.nil
  | succ k ih => exact Byt.mk (by omega) ih
theorem intForm_byt (n : Int) : Byt (intForm n) := uintForm_byt _ _
theorem numForm_lt {n : Nat} (h : n < 128) : numForm n = [(n : Int)] := by rw [numForm, if_pos h]
theorem numForm_ge {n : Nat} (h : ¬ n < 128) : numForm n = ((n % 128 + 128 : Nat) : Int) :: numForm (n / 128) := by rw [numForm, if_neg h]
theorem numForm_prefix (a : Nat) : ∀ (b : Nat) (xs ys : List Int), numForm a ++ xs = numForm b ++ ys → a = b ∧ xs = ys := by
  induction a using Nat.strongRecOn with
  | _ a ih =>
    intro b xs ys h
    by_cases ha : a < 128 <;> by_cases hb : b < 128
    · rw [numForm_lt ha, numForm_lt hb] at h
      simp only [List.cons_append, List.nil_append, List.cons.injEq] at h
      exact ⟨by omega, h.2⟩
    · rw [numForm_lt ha, numForm_ge hb] at h
      simp only [List.cons_append, List.nil_append, List.cons.injEq] at h
      omega
    · rw [numForm_ge ha, numForm_lt hb] at h
      simp only [List.cons_append, List.nil_append, List.cons.injEq] at h
      omega
    · rw [numForm_ge ha, numForm_ge hb] at h
      simp only [List.cons_append, List.cons.injEq] at h
      have h2 := ih (a / 128) (by omega) (b / 128) xs ys h.2
      exact ⟨by omega, h2.2⟩
theorem numForm_inj {a b : Nat} (h : numForm a = numForm b) : a = b := (numForm_prefix a b [] [] (by simpa using h)).1
/-- A number of k bytes, told again. -/
theorem beNum_uintForm (n k : Nat) : beNum (uintForm n k) = ((n % 256 ^ k : Nat) : Int) := by
  induction k with
  | zero => simp [uintForm, beNum, Nat.mod_one]
  | succ k ih =>
    rw [uintForm, beNum_cons, uintForm_length, ih, ← Int.natCast_mul, ← Int.natCast_add]
    congr 1
    rw [Nat.pow_succ, Nat.mod_mul, Nat.mul_comm (256 ^ k)]
    omega
theorem uintForm_inj {a b k : Nat} (ha : a < 256 ^ k) (hb : b < 256 ^ k) (h : uintForm a k = uintForm b k) : a = b := by
  have h2 := congrArg beNum h
  rw [beNum_uintForm, beNum_uintForm, Nat.mod_eq_of_lt ha, Nat.mod_eq_of_lt hb] at h2
  omega
theorem intForm_inj {a b : Int} (ha : -9223372036854775808 ≤ a) (ha2 : a ≤ 9223372036854775807) (hb : -9223372036854775808 ≤ b) (hb2 : b ≤ 9223372036854775807) (h : intForm a = intForm b) : a = b := by
  have e : 256 ^ 8 = 18446744073709551616 := by decide
  have h1 := zig_range a ha ha2
  have h2 := zig_range b hb hb2
  have h3 := uintForm_inj (a := (zig a).toNat) (b := (zig b).toNat) (k := 8) (by omega) (by omega) h
  exact zig_inj (by omega)
theorem begins_iff (a b : Nat) : (numForm a).length ≤ (numForm b).length ∧ numForm a = (numForm b).take (min (numForm a).length (numForm b).length) ↔ a = b := by
  constructor
  · rintro ⟨h1, h2⟩
    rw [Nat.min_eq_left h1] at h2
    refine (numForm_prefix a b ((numForm b).drop (numForm a).length) [] ?_).1
    rw [List.append_nil]
    conv => lhs; rw [h2]
    rw [show ((numForm b).take (numForm a).length).length = (numForm a).length by rw [List.length_take]; omega]
    exact List.take_append_drop _ _
  · rintro rfl
    exact ⟨Nat.le_refl _, by rw [Nat.min_self, List.take_length]⟩
theorem WS.fr {w w1 : World} {S : Nat → Prop} {g : Nat} {row : Option Nat} {xs : List Int} (h : WS w g row xs) (hf : Fr w w1 S) (hg : ¬ S g) (hr : ∀ k, row = some k → ¬ S k) : WS w1 g row xs := by
  obtain ⟨v, hb, hr2, ho⟩ := h
  exact ⟨v, hf.blk hb hg, hr2, hf.own ho (fun k hk => hr k (by rw [← hr2]; exact hk))⟩
theorem WS.alloc {w : World} {g : Nat} {row : Option Nat} {xs : List Int} (h : WS w g row xs) (o : Obj) : WS (w.alloc o) g row xs :=
  h.fr (S := fun _ => False) (Fr.of_below (below_alloc (Below.refl _ _) o) _) (fun h => h) (fun _ _ h => h)
theorem WS.below {w w1 : World} {g : Nat} {row : Option Nat} {xs : List Int} (h : WS w g row xs) (hb : Below w.heap.size w w1) : WS w1 g row xs :=
  h.fr (S := fun _ => False) (Fr.of_below hb _) (fun h => h) (fun _ _ h => h)
theorem WS.lt {w : World} {g : Nat} {row : Option Nat} {xs : List Int} (h : WS w g row xs) : g < w.heap.size := by
  obtain ⟨v, hb, _⟩ := h
  exact blk_lt hb
theorem RS.below {w w1 : World} {g : Nat} {row : Option Nat} {s : List Int × Int} (h : RS w g row s) (hb : Below w.heap.size w w1) : RS w1 g row s :=
  h.fr (S := fun _ => False) (Fr.of_below hb _) (fun h => h) (fun _ _ h => h)
end Go.Proofs.Ytalpemoodollpaa.P
-- Printed by hookprint.py (the session's own program, over the kit's print.py): checked by Lean like any text.
namespace Go.Proofs.Ytalpemoodollpaa.P
open Go.RowKit Go.Proofs.YtalpemoodollpaaW.PrintWords Go.Proofs.YtalpemoodollpaaW.PrintLast Go.Proofs.YtalpemoodollpaaW.PrintMore
attribute [local go_sem] max2_int min2_int max_two min_two max_three min_three max_four min_four   -- for this text's walks alone
set_option linter.unusedVariables false
set_option linter.unusedSimpArgs false

/-! ### damperref03_Uint: function 101 -/
mutual
def damperref03_Uint.j0 : Nat → Int → Int → Bool → Option (List Int)
  | 0, _, _, _ => none
  | k + 1, x0, x1, x12 => if x12 = true then (some ([] : List Int)) else (damperref03_Uint.l0 k x0 x1 ([] : List Int) 0)
def damperref03_Uint.l0 : Nat → Int → Int → List Int → Int → Option (List Int)
  | 0, _, _, _, _ => none
  | k + 1, x0, x1, x5, x6 => if x6 < x1 then ((some (([(Int.tmod x0 256) % 256] : List Int) : List Int)).bind fun y147 => (if y147.length + x5.length < 140737488355328 then (damperref03_Uint.l0 k (IntKind.u64.wrap (Int.tdiv x0 256)) x1 (y147 ++ x5) (wrap64 (x6 + 1))) else (none))) else (some x5)
end
def damperref03_Uint.f (k : Nat) (a0 : Int) (a1 : Int) : Option (List Int) := if a1 < 1 then (damperref03_Uint.j0 k a0 a1 true) else (damperref03_Uint.j0 k a0 a1 (decide (a1 > 8)))
theorem damperref03_Uint.mono_l : ∀ k, (∀ y0 y1 y2, LeO (damperref03_Uint.j0 k y0 y1 y2) (damperref03_Uint.j0 (k + 1) y0 y1 y2)) ∧ (∀ y0 y1 y2 y3, LeO (damperref03_Uint.l0 k y0 y1 y2 y3) (damperref03_Uint.l0 (k + 1) y0 y1 y2 y3))
  | 0 => ⟨fun _ _ _ r h => by simp [damperref03_Uint.j0] at h, fun _ _ _ _ r h => by simp [damperref03_Uint.l0] at h⟩
  | k + 1 => by
    obtain ⟨ih0, ih1⟩ := damperref03_Uint.mono_l k
    refine ⟨?_, ?_⟩
    · intro y0 y1 y2
      unfold damperref03_Uint.j0
      repeat' first
      | (with_reducible exact ih0 _ _ _)
      | (with_reducible exact ih1 _ _ _ _)
      | (with_reducible exact LeO.refl _)
      | (with_reducible exact LeO.none _)
      | (with_reducible refine LeO.ite ?_ ?_)
      | (with_reducible refine LeO.bind ?_ (fun _ => ?_))
      | exact ih0 _ _ _
      | exact ih1 _ _ _ _
      | exact LeO.none _
      | refine LeO.ite ?_ ?_
      | refine LeO.bind ?_ (fun _ => ?_)
    · intro y0 y1 y2 y3
      unfold damperref03_Uint.l0
      repeat' first
      | (with_reducible exact ih0 _ _ _)
      | (with_reducible exact ih1 _ _ _ _)
      | (with_reducible exact LeO.refl _)
      | (with_reducible exact LeO.none _)
      | (with_reducible refine LeO.ite ?_ ?_)
      | (with_reducible refine LeO.bind ?_ (fun _ => ?_))
      | exact ih0 _ _ _
      | exact ih1 _ _ _ _
      | exact LeO.none _
      | refine LeO.ite ?_ ?_
      | refine LeO.bind ?_ (fun _ => ?_)
theorem damperref03_Uint.mono : ∀ a0 a1 k, LeO (damperref03_Uint.f k a0 a1) (damperref03_Uint.f (k + 1) a0 a1) := by
  intro a0 a1 k
  obtain ⟨ih0, ih1⟩ := damperref03_Uint.mono_l k
  unfold damperref03_Uint.f
  repeat' first
      | (with_reducible exact ih0 _ _ _)
      | (with_reducible exact ih1 _ _ _ _)
      | (with_reducible exact LeO.refl _)
      | (with_reducible exact LeO.none _)
      | (with_reducible refine LeO.ite ?_ ?_)
      | (with_reducible refine LeO.bind ?_ (fun _ => ?_))
      | exact ih0 _ _ _
      | exact ih1 _ _ _ _
      | exact LeO.none _
      | refine LeO.ite ?_ ?_
      | refine LeO.bind ?_ (fun _ => ?_)
set_option maxHeartbeats 8000000 in
set_option maxRecDepth 100000 in
theorem damperref03_Uint.calls (k : Nat) (a0 : Int) (a1 : Int) (r : List Int) (w : World) (h : damperref03_Uint.f k a0 a1 = some r) :
    Calls Try.prog 101 #[.int .u64 a0, .int .i64 a1] w fun e w' => ∃ v0_ : Value, e = .returned (v0_) ∧ Kd.R (Kd.int .u8) 5 w' w.heap.size (fun _ => True) v0_ r ∧ Below w.heap.size w w' := by
  have HB := Aside0.mk (Below.refl w.heap.size w)
  have H : (if a1 < 1 then (damperref03_Uint.j0 k a0 a1 true) else (damperref03_Uint.j0 k a0 a1 (decide (a1 > 8)))) = some r := h
  clear h
  have HC3 := Aside0.mk H
  clear H
  go_enter Try.func101, Try.ntmps101
  go_upto_region 1 with (fail)
  go_cut [12] (fun v12 wc => ∃ (kq : Nat) (x12_2 : Bool), v12 = .bool x12_2 ∧ Aside0 (damperref03_Uint.j0 kq a0 a1 x12_2 = some r) ∧ Aside0 (kq ≤ k) ∧ Aside0 (Below w.heap.size w wc))
  case first =>
    have H := HC3.out
    clear HC3
    by_cases c4 : a1 < 1
    · rw [if_pos c4] at H
      have c4b0 : decide (a1 < 1) = true := decide_eq_true c4
      clear c4
      (first | rw [c4b0] | (simp only [i64_w, i32_w]; rw [c4b0]) | skip)
      have H' := Aside0.mk H
      clear H
      go_wp2
      go_meet
      case rel => exact ⟨_, (true), (by first | rfl | (simp; done) | (simp [*]; done)), H', ⟨by first | omega | exact Nat.le_refl _⟩, ⟨by repeat (first | (with_reducible first | exact HB.out | apply below_alloc | apply pw_below_drewN | apply below_drew1) | exact HB.out)⟩⟩
    · rw [if_neg c4] at H
      have c4b0 : decide (a1 < 1) = false := decide_eq_false c4
      clear c4
      (first | rw [c4b0] | (simp only [i64_w, i32_w]; rw [c4b0]) | skip)
      have H' := Aside0.mk H
      clear H
      go_wp2
      go_meet
      case rel => exact ⟨_, (decide (a1 > 8)), (by first | rfl | (simp; done) | (simp [*]; done)), H', ⟨by first | omega | exact Nat.le_refl _⟩, ⟨by repeat (first | (with_reducible first | exact HB.out | apply below_alloc | apply pw_below_drewN | apply below_drew1) | exact HB.out)⟩⟩
  case rest =>
    clear HC3
    try clear c1
    try clear p2
    try clear c4
    try clear c4b0
    obtain ⟨kq, x12_2, rfl, HA, HJ2, HB⟩ := hcut
    cases kq with
    | zero => exact absurd HA.out (by simp [damperref03_Uint.j0])
    | succ kj2 =>
      have H := HA.out
      clear HA
      simp only [damperref03_Uint.j0] at H
      by_cases c5 : x12_2 = true
      · subst c5
        have H1 : (some ([] : List Int)) = some r := by rw [if_pos rfl] at H; exact H
        clear H
        have H := H1
        clear H1
        obtain rfl := Option.some.inj H
        go_wp2
        go_ret
        exact ⟨_, by first | rfl | (simp [errW_none, errW_some] <;> rfl) | (simp [*, errW_none, errW_some] <;> rfl), by first | exact Kd.R_nil _ _ _ _ _ | exact Kd.N_nil _ _ _ _ _ | exact Kd.V_nil _ _ _ _ _ | exact Kd.Q_nil _ _ _ _ _ | exact Kd.S_nil _ _ _ _ _, by repeat (first | (with_reducible first | exact HB.out | apply below_alloc | apply pw_below_drewN | apply below_drew1) | exact HB.out)⟩
      · replace c5 := Bool.eq_false_iff.mpr c5
        subst c5
        have H1 : (damperref03_Uint.l0 kj2 a0 a1 ([] : List Int) 0) = some r := by rw [if_neg (show ¬ (false = true) by decide)] at H; exact H
        clear H
        have H := H1
        clear H1
        have H' := Aside0.mk H
        clear H
        go_wp2
        go_loopg [0, 5, 6] kj2 (fun kq v0 v5 v6 w' => ∃ (x0_2 : Int) (x5_2 : List Int) (x6_2 : Int), v0 = .int .u64 x0_2 ∧ v6 = .int .i64 x6_2 ∧ Aside0 (damperref03_Uint.l0 kq x0_2 a1 x5_2 x6_2 = some r) ∧ Aside0 (kq ≤ kj2) ∧ Aside0 (Kd.R (Kd.int .u8) 5 w' w.heap.size (fun _ => True) v5 x5_2) ∧ Aside0 (Below w.heap.size w w'))
        case atStart => exact ⟨(a0), (([] : List Int)), (0), (by first | rfl | (simp; done) | (simp [*]; done)), (by first | rfl | (simp; done) | (simp [*]; done)), H', ⟨Nat.le_refl _⟩, ⟨by first | exact Kd.R_nil _ _ _ _ _ | exact Kd.N_nil _ _ _ _ _ | exact Kd.V_nil _ _ _ _ _ | exact Kd.Q_nil _ _ _ _ _ | exact Kd.S_nil _ _ _ _ _⟩, ⟨by repeat (first | (with_reducible first | exact HB.out | apply below_alloc | apply pw_below_drewN | apply below_drew1) | exact HB.out)⟩⟩
        case round =>
          clear H'
          try clear c1
          try clear p2
          try clear c4
          try clear c4b0
          try clear c5
          try clear p2
          obtain ⟨x0_2, x5_2, x6_2, rfl, rfl, HA, HK2, HO_5, HB⟩ := hrel
          cases gk with
          | zero => exact absurd HA.out (by simp [damperref03_Uint.l0])
          | succ k2 =>
            have H := HA.out
            clear HA
            simp only [damperref03_Uint.l0] at H
            by_cases c6 : x6_2 < a1
            · rw [if_pos c6] at H
              have c6b0 : decide (x6_2 < a1) = true := decide_eq_true c6
              clear c6
              obtain ⟨y147, hy147⟩ : ∃ y_ : List Int, y_ = (([(Int.tmod x0_2 256) % 256] : List Int)) := ⟨_, rfl⟩
              replace H : (if y147.length + x5_2.length < 140737488355328 then (damperref03_Uint.l0 k2 (IntKind.u64.wrap (Int.tdiv x0_2 256)) a1 (y147 ++ x5_2) (wrap64 (x6_2 + 1))) else (none)) = some r := by first | (rw [hy147]; with_reducible exact H) | (have H2_ := (Option.bind_some _ _).symm.trans H; rw [hy147]; with_reducible exact H2_) | (have H2_ := (Option.bind_some _ _).symm.trans H; with_reducible exact H2_) | with_reducible exact H | (rw [hy147]; exact H) | exact H
              have Ny147 := Aside0.mk hy147
              clear hy147
              by_cases c7 : y147.length + x5_2.length < 140737488355328
              · rw [if_pos c7] at H
                have LMc7 := Aside0.mk c7
                clear c7
                obtain ⟨y150, hy150⟩ : ∃ y_ : List Int, y_ = (y147 ++ x5_2) := ⟨_, rfl⟩
                replace H : (damperref03_Uint.l0 k2 (IntKind.u64.wrap (Int.tdiv x0_2 256)) a1 y150 (wrap64 (x6_2 + 1))) = some r := by first | (rw [hy150]; with_reducible exact H) | (have H2_ := (Option.bind_some _ _).symm.trans H; rw [hy150]; with_reducible exact H2_) | (have H2_ := (Option.bind_some _ _).symm.trans H; with_reducible exact H2_) | with_reducible exact H | (rw [hy150]; exact H) | exact H
                have Ny150 := Aside0.mk hy150
                clear hy150
                have H' := Aside0.mk H
                clear H
                go_wp2_with (first | ((with_reducible refine gate_dst (N := 21) rfl ?_); refine Kd.R_lit (Kd.int .u8) _ 5 ?hg (N := 21) ?hd (xs := ([(Int.tmod x0_2 256) % 256] : List Int)) (inner := [.int .u8 ((Int.tmod x0_2 256) % 256)]) (ok := fun _ => True) (okp := fun _ => True) ?hr ?hp (fun _ hk => hk) trivial (Below.refl _ _) (Nat.le_refl _) (by simp) ?_; (case hd => rfl); (case hg => rfl); (case hr => first | (go_simp; done) | (go_simp; rfl)); (case hp => exact (Reps.one (show Kd.M (Kd.int .u8) _ _ _ ((Int.tmod x0_2 256) % 256) [.int .u8 ((Int.tmod x0_2 256) % 256)] from rfl) (Reps.none _ _))); intro v148 w8 ho9 hb hg_ hnew_; clear hg_ hnew_; (first | rw [← Ny147.out] at ho9 | (simp only [Int.reduceToNat] at ho9; rw [← Ny147.out] at ho9)); have n0_ := Aside0.mk (Kd.R_elder' (by (with_reducible repeat (first | apply Kd.R_alloc | apply Kd.R_drewN | apply Kd.R_drew)); exact HO_5.out) (Kd.R_base ho9) hb); have n1_ := Aside0.mk (Kd.R_lower (Kd.R_new' ho9 (Kd.R_lt (by (with_reducible repeat (first | apply Kd.R_alloc | apply Kd.R_drewN | apply Kd.R_drew)); exact HO_5.out))) (below_size (by repeat (first | (with_reducible first | exact HB.out | apply below_alloc | apply pw_below_drewN | apply below_drew1) | exact HB.out)))); have n2_ := Aside0.mk (below_step (by repeat (first | (with_reducible first | exact HB.out | apply below_alloc | apply pw_below_drewN | apply below_drew1) | exact HB.out)) hb); clear HO_5; clear HB; have HO_5 := n0_; have HO149 := n1_; have HB := n2_; clear n0_ n1_ n2_; clear hb ho9; obtain ⟨Ao11, co11, eo11⟩ := Kd.R_slice HO_5.out; subst eo11) | ((with_reducible refine gate_builtin (b := .append) (xs := #[.tmp 21, .tmp 22]) rfl ?_); at_builtin; refine Kd.R_append_rows (Kd.int .u8) (w0 := w) w.heap.size rfl (.tmp 21) (.tmp 22) 30 5 (.int .u8 0) 1 rfl Try.underlying30 info5 rfl (by decide) (by omega) v148 y147 x5_2 _ _ _ (fun k_ => some k_ ≠ (.slice Ao11 x5_2.length co11 : Value).ownBlock) (fun _ => False) rfl rfl ?aO ?aR (fun _ _ h => h) (fun _ h => h.elim) ?aF ?aB ?aS ?aL ?_; (case aR => repeat (first | exact (Kd.R_reads' HO_5.out).2.2 | (with_reducible refine Kd.C_alloc ?_ _) | (with_reducible refine Kd.C_drewN ?_ _) | (with_reducible refine Kd.C_drew ?_))); (case aB => exact (by repeat (first | (with_reducible first | exact HB.out | apply below_alloc | apply pw_below_drewN | apply below_drew1) | exact HB.out))); (case aF => exact (fun k_ hk => Kd.fresh' (Kd.R_lt (by (with_reducible repeat (first | apply Kd.R_alloc | apply Kd.R_drewN | apply Kd.R_drew)); exact HO_5.out)) k_ hk)); (case aO => exact (by (with_reducible repeat (first | apply Kd.R_alloc | apply Kd.R_drewN | apply Kd.R_drew)); exact Kd.R_mono HO149.out (fun _ hk => hk.2))); (case aS => exact (below_size (by repeat (first | (with_reducible first | exact HB.out | apply below_alloc | apply pw_below_drewN | apply below_drew1) | exact HB.out)))); (case aL => have := LMc7.out; omega); intro v151 w10 ho hb hg hat; rw [← Ny150.out] at ho; have n0_ := Aside0.mk (Kd.R_after (ok := (fun _ => True)) (by (with_reducible repeat (first | apply Kd.R_alloc | apply Kd.R_drewN | apply Kd.R_drew)); exact HO_5.out) hg hat); have n1_ := Aside0.mk (hb); have n2_ := Aside0.mk (ho); clear HO_5; clear HB; clear HO149; have HO_5 := n0_; have HB := n1_; have HO152 := n2_; clear n0_ n1_ n2_; clear ho hb hg hat))
                go_roundg k2
                case measure => have := HJ2.out; have := HK2.out; omega
                case rel => exact ⟨(IntKind.u64.wrap (Int.tdiv x0_2 256)), (y150), (wrap64 (x6_2 + 1)), (by first | rfl | (simp; done) | (simp [*]; done)), (by first | rfl | (simp; done) | (simp [*]; done)), H', ⟨by have := HJ2.out; have := HK2.out; omega⟩, ⟨by (with_reducible repeat (first | apply Kd.R_alloc | apply Kd.R_drewN | apply Kd.R_drew)); exact Kd.R_mono HO152.out (fun _ hk => trivial)⟩, ⟨by repeat (first | (with_reducible first | exact HB.out | apply below_alloc | apply pw_below_drewN | apply below_drew1) | exact HB.out)⟩⟩
              · rw [if_neg c7] at H
                exact absurd H (by simp)
            · rw [if_neg c6] at H
              have c6b0 : decide (x6_2 < a1) = false := decide_eq_false c6
              clear c6
              obtain rfl := Option.some.inj H
              go_wp2
              go_ret
              exact ⟨_, by first | rfl | (simp [errW_none, errW_some] <;> rfl) | (simp [*, errW_none, errW_some] <;> rfl), by (with_reducible repeat (first | apply Kd.R_alloc | apply Kd.R_drewN | apply Kd.R_drew)); exact HO_5.out, by repeat (first | (with_reducible first | exact HB.out | apply below_alloc | apply pw_below_drewN | apply below_drew1) | exact HB.out)⟩

end Go.Proofs.Ytalpemoodollpaa.P
-- Printed by hookprint.py (the session's own program, over the kit's print.py): checked by Lean like any text.
namespace Go.Proofs.Ytalpemoodollpaa.P
open Go.RowKit Go.Proofs.YtalpemoodollpaaW.PrintWords Go.Proofs.YtalpemoodollpaaW.PrintLast Go.Proofs.YtalpemoodollpaaW.PrintMore
attribute [local go_sem] max2_int min2_int max_two min_two max_three min_three max_four min_four   -- for this text's walks alone
set_option linter.unusedVariables false
set_option linter.unusedSimpArgs false

/-! ### damperref03_turned: function 134 -/
def damperref03_turned.f (a0 : Int) : Option (Int) := if a0 ≥ 0 then (some (IntKind.u64.wrap (2 * (IntKind.u64.wrap (a0))))) else (some (IntKind.u64.wrap ((IntKind.u64.wrap (2 * (IntKind.u64.wrap (wrap64 (-(wrap64 (a0 + 1))))))) + 1)))
set_option maxHeartbeats 8000000 in
set_option maxRecDepth 100000 in
theorem damperref03_turned.calls (a0 : Int) (r : Int) (w : World) (h : damperref03_turned.f a0 = some r) :
    Calls Try.prog 134 #[.int .i64 a0] w fun e w' => e = .returned (.int .u64 r) ∧ Drawn0 w w' := by
  have H : (if a0 ≥ 0 then (some (IntKind.u64.wrap (2 * (IntKind.u64.wrap (a0))))) else (some (IntKind.u64.wrap ((IntKind.u64.wrap (2 * (IntKind.u64.wrap (wrap64 (-(wrap64 (a0 + 1))))))) + 1)))) = some r := h
  clear h
  by_cases c2 : a0 ≥ 0
  · rw [if_pos c2] at H
    have c2b0 : decide (0 ≤ a0) = true := decide_eq_true c2
    clear c2
    obtain rfl := Option.some.inj H
    go_enter Try.func134, Try.ntmps134
    go_wp2
    go_ret
    exact ⟨by first | rfl | (simp; done) | (simp [*]; done), by repeat (first | exact Drawn0.refl _ | apply Drawn0.step)⟩
  · rw [if_neg c2] at H
    have c2b0 : decide (0 ≤ a0) = false := decide_eq_false c2
    clear c2
    obtain rfl := Option.some.inj H
    go_enter Try.func134, Try.ntmps134
    go_wp2
    go_ret
    exact ⟨by first | rfl | (simp; done) | (simp [*]; done), by repeat (first | exact Drawn0.refl _ | apply Drawn0.step)⟩

end Go.Proofs.Ytalpemoodollpaa.P
-- Printed by hookprint.py (the session's own program, over the kit's print.py): checked by Lean like any text.
namespace Go.Proofs.Ytalpemoodollpaa.P
open Go.RowKit Go.Proofs.YtalpemoodollpaaW.PrintWords Go.Proofs.YtalpemoodollpaaW.PrintLast Go.Proofs.YtalpemoodollpaaW.PrintMore
attribute [local go_sem] max2_int min2_int max_two min_two max_three min_three max_four min_four   -- for this text's walks alone
set_option linter.unusedVariables false
set_option linter.unusedSimpArgs false

/-! ### damperref03_Int: function 102 -/
def damperref03_Int.f (k : Nat) (a0 : Int) : Option (List Int) := (damperref03_turned.f a0).bind fun t153 => ((damperref03_Uint.f k t153 8).bind fun t154 => (some t154))
theorem damperref03_Int.mono : ∀ a0 k, LeO (damperref03_Int.f k a0) (damperref03_Int.f (k + 1) a0) := by
  intro a0 k
  unfold damperref03_Int.f
  repeat' first
      | (with_reducible exact damperref03_Uint.mono _ _ _)
      | (with_reducible exact LeO.refl _)
      | (with_reducible exact LeO.none _)
      | (with_reducible refine LeO.ite ?_ ?_)
      | (with_reducible refine LeO.bind ?_ (fun _ => ?_))
      | exact damperref03_Uint.mono _ _ _
      | exact LeO.none _
      | refine LeO.ite ?_ ?_
      | refine LeO.bind ?_ (fun _ => ?_)
set_option maxHeartbeats 8000000 in
set_option maxRecDepth 100000 in
theorem damperref03_Int.calls (k : Nat) (a0 : Int) (r : List Int) (w : World) (h : damperref03_Int.f k a0 = some r) :
    Calls Try.prog 102 #[.int .i64 a0] w fun e w' => ∃ v0_ : Value, e = .returned (v0_) ∧ Kd.R (Kd.int .u8) 5 w' w.heap.size (fun _ => True) v0_ r ∧ Below w.heap.size w w' := by
  have HB := Aside0.mk (Below.refl w.heap.size w)
  have H : ((damperref03_turned.f a0).bind fun t153 => ((damperref03_Uint.f k t153 8).bind fun t154 => (some t154))) = some r := h
  clear h
  replace H := Option.bind_eq_some_iff.mp H
  obtain ⟨t153, A20, H⟩ := H
  replace H : ((damperref03_Uint.f k t153 8).bind fun t154 => (some t154)) = some r := H
  have A2 := Aside0.mk A20
  clear A20
  replace H := Option.bind_eq_some_iff.mp H
  obtain ⟨t154, A30, H⟩ := H
  replace H : (some t154) = some r := H
  have A3 := Aside0.mk A30
  clear A30
  obtain rfl := Option.some.inj H
  go_enter Try.func102, Try.ntmps102
  go_wp2_with (first | ((with_reducible refine gate_callee (f := 134) rfl ?_); refine goesL_ (some 4) rfl rfl Try.func134 (by kernel_rfl) rfl #[.int .i64 a0] rfl (by (try simp only [List.map_toArray, List.map_cons, List.map_nil]); first | done | rfl | (simp only [List.length_drop, List.length_take]; rfl)) ?_; (with_reducible refine (damperref03_turned.calls a0 t153 _ A2.out).mono ?_); rintro e w' ⟨rfl, ⟨nd, rfl⟩⟩; refine ⟨_, rfl, ?_⟩) | ((with_reducible refine gate_callee (f := 101) rfl ?_); refine goesL_ (some 5) rfl rfl Try.func101 (by kernel_rfl) rfl #[.int .u64 t153, .int .i64 8] rfl (by (try simp only [List.map_toArray, List.map_cons, List.map_nil]); first | done | rfl | (simp only [List.length_drop, List.length_take]; rfl)) ?_; (with_reducible refine (damperref03_Uint.calls k t153 8 t154 _ A3.out).mono ?_); rintro e w4 ⟨v155, rfl, ho0, hb⟩; refine ⟨_, rfl, ?_⟩; have n0_ := Aside0.mk (Kd.R_lower ho0 (below_size (by repeat (first | (with_reducible first | exact HB.out | apply below_alloc | apply pw_below_drewN | apply below_drew1) | exact HB.out)))); have n1_ := Aside0.mk (below_step (by repeat (first | (with_reducible first | exact HB.out | apply below_alloc | apply pw_below_drewN | apply below_drew1) | exact HB.out)) hb); clear HB; have HO156 := n0_; have HB := n1_; clear n0_ n1_; (try clear hb); (try clear hb2); (try clear hk); (try clear hi); (try clear ho0)))
  go_ret
  exact ⟨_, by first | rfl | (simp [errW_none, errW_some] <;> rfl) | (simp [*, errW_none, errW_some] <;> rfl), by (with_reducible repeat (first | apply Kd.R_alloc | apply Kd.R_drewN | apply Kd.R_drew)); exact HO156.out, by repeat (first | (with_reducible first | exact HB.out | apply below_alloc | apply pw_below_drewN | apply below_drew1) | exact HB.out)⟩

end Go.Proofs.Ytalpemoodollpaa.P
-- Printed by hookprint.py (the session's own program, over the kit's print.py): checked by Lean like any text.
namespace Go.Proofs.Ytalpemoodollpaa.P
open Go.RowKit Go.Proofs.YtalpemoodollpaaW.PrintWords Go.Proofs.YtalpemoodollpaaW.PrintLast Go.Proofs.YtalpemoodollpaaW.PrintMore
attribute [local go_sem] max2_int min2_int max_two min_two max_three min_three max_four min_four   -- for this text's walks alone
set_option linter.unusedVariables false
set_option linter.unusedSimpArgs false

/-! ### damperref03_Num: function 103 -/
def damperref03_Num.l0 : Nat → Int → List Int → Option (List Int)
  | 0, _, _ => none
  | k + 1, x0, x3 => if x0 > 127 then (if x3.length < 140737488355328 then (damperref03_Num.l0 k (IntKind.u64.wrap (Int.tdiv x0 128)) (x3 ++ [(IntKind.u64.wrap ((Int.tmod x0 128) + 128)) % 256])) else (none)) else (if x3.length < 140737488355328 then (some (x3 ++ [(x0) % 256])) else (none))
def damperref03_Num.f (k : Nat) (a0 : Int) : Option (List Int) := damperref03_Num.l0 k a0 ([] : List Int)
theorem damperref03_Num.mono_l : ∀ k, (∀ y0 y1, LeO (damperref03_Num.l0 k y0 y1) (damperref03_Num.l0 (k + 1) y0 y1))
  | 0 => fun _ _ r h => by simp [damperref03_Num.l0] at h
  | k + 1 => by
    have ih0 := damperref03_Num.mono_l k
    · intro y0 y1
      unfold damperref03_Num.l0
      repeat' first
      | (with_reducible exact ih0 _ _)
      | (with_reducible exact LeO.refl _)
      | (with_reducible exact LeO.none _)
      | (with_reducible refine LeO.ite ?_ ?_)
      | (with_reducible refine LeO.bind ?_ (fun _ => ?_))
      | exact ih0 _ _
      | exact LeO.none _
      | refine LeO.ite ?_ ?_
      | refine LeO.bind ?_ (fun _ => ?_)
theorem damperref03_Num.mono : ∀ a0 k, LeO (damperref03_Num.f k a0) (damperref03_Num.f (k + 1) a0) := by
  intro a0 k
  have ih0 := damperref03_Num.mono_l k
  unfold damperref03_Num.f
  repeat' first
      | (with_reducible exact ih0 _ _)
      | (with_reducible exact LeO.refl _)
      | (with_reducible exact LeO.none _)
      | (with_reducible refine LeO.ite ?_ ?_)
      | (with_reducible refine LeO.bind ?_ (fun _ => ?_))
      | exact ih0 _ _
      | exact LeO.none _
      | refine LeO.ite ?_ ?_
      | refine LeO.bind ?_ (fun _ => ?_)
set_option maxHeartbeats 8000000 in
set_option maxRecDepth 100000 in
theorem damperref03_Num.calls (k : Nat) (a0 : Int) (r : List Int) (w : World) (h : damperref03_Num.f k a0 = some r) :
    Calls Try.prog 103 #[.int .u64 a0] w fun e w' => ∃ v0_ : Value, e = .returned (v0_) ∧ Kd.R (Kd.int .u8) 5 w' w.heap.size (fun _ => True) v0_ r ∧ Below w.heap.size w w' := by
  have HB := Aside0.mk (Below.refl w.heap.size w)
  have H : (damperref03_Num.l0 k a0 ([] : List Int)) = some r := h
  clear h
  have H' := Aside0.mk H
  clear H
  go_enter Try.func103, Try.ntmps103
  go_wp2
  go_loopg [0, 3] k (fun kq v0 v3 w' => ∃ (x0_1 : Int) (x3_1 : List Int), v0 = .int .u64 x0_1 ∧ Aside0 (damperref03_Num.l0 kq x0_1 x3_1 = some r) ∧ Aside0 (kq ≤ k) ∧ Aside0 (Kd.R (Kd.int .u8) 5 w' w.heap.size (fun _ => True) v3 x3_1) ∧ Aside0 (Below w.heap.size w w'))
  case atStart => exact ⟨(a0), (([] : List Int)), (by first | rfl | (simp; done) | (simp [*]; done)), H', ⟨Nat.le_refl _⟩, ⟨by first | exact Kd.R_nil _ _ _ _ _ | exact Kd.N_nil _ _ _ _ _ | exact Kd.V_nil _ _ _ _ _ | exact Kd.Q_nil _ _ _ _ _ | exact Kd.S_nil _ _ _ _ _⟩, ⟨by repeat (first | (with_reducible first | exact HB.out | apply below_alloc | apply pw_below_drewN | apply below_drew1) | exact HB.out)⟩⟩
  case round =>
    clear H'
    try clear c1
    obtain ⟨x0_1, x3_1, rfl, HA, HK1, HO_3, HB⟩ := hrel
    cases gk with
    | zero => exact absurd HA.out (by simp [damperref03_Num.l0])
    | succ k1 =>
      have H := HA.out
      clear HA
      simp only [damperref03_Num.l0] at H
      by_cases c2 : x0_1 > 127
      · rw [if_pos c2] at H
        have c2b0 : decide (127 < x0_1) = true := decide_eq_true c2
        clear c2
        by_cases c3 : x3_1.length < 140737488355328
        · rw [if_pos c3] at H
          have LMc3 := Aside0.mk c3
          clear c3
          obtain ⟨y157, hy157⟩ : ∃ y_ : List Int, y_ = (x3_1 ++ [(IntKind.u64.wrap ((Int.tmod x0_1 128) + 128)) % 256]) := ⟨_, rfl⟩
          replace H : (damperref03_Num.l0 k1 (IntKind.u64.wrap (Int.tdiv x0_1 128)) y157) = some r := by first | (rw [hy157]; with_reducible exact H) | (have H2_ := (Option.bind_some _ _).symm.trans H; rw [hy157]; with_reducible exact H2_) | (have H2_ := (Option.bind_some _ _).symm.trans H; with_reducible exact H2_) | with_reducible exact H | (rw [hy157]; exact H) | exact H
          have Ny157 := Aside0.mk hy157
          clear hy157
          have H' := Aside0.mk H
          clear H
          go_wp2_with (first | ((with_reducible refine gate_builtin (b := .append) (xs := #[.tmp 6, .tmp 11]) rfl ?_); at_builtin; refine Kd.R_append (Kd.int .u8) (w0 := w) w.heap.size rfl (.tmp 6) (.tmp 11) 30 5 (.int .u8 0) 1 rfl Try.underlying30 info5 rfl (by decide) (by omega) u3 x3_1 ((IntKind.u64.wrap ((Int.tmod x0_1 128) + 128)) % 256) [.int .u8 ((IntKind.u64.wrap ((Int.tmod x0_1 128) + 128)) % 256)] (fun _ => True) (fun _ => False) rfl rfl ?aP (fun _ hk => hk.elim) ?aF ?aO ?aB ?aS ?aL ?_; (case aP => exact rfl); (case aB => exact (by repeat (first | (with_reducible first | exact HB.out | apply below_alloc | apply pw_below_drewN | apply below_drew1) | exact HB.out))); (case aF => exact (fun _ _ => trivial)); (case aO => exact (by (with_reducible repeat (first | apply Kd.R_alloc | apply Kd.R_drewN | apply Kd.R_drew)); exact HO_3.out)); (case aS => exact (below_size (by repeat (first | (with_reducible first | exact HB.out | apply below_alloc | apply pw_below_drewN | apply below_drew1) | exact HB.out)))); (case aL => have := LMc3.out; omega); intro v158 w4 ho hb hg hat; rw [← Ny157.out] at ho; have n0_ := Aside0.mk (hb); have n1_ := Aside0.mk (ho); clear HB; clear HO_3; have HB := n0_; have HO159 := n1_; clear n0_ n1_; clear ho hb hg hat))
          go_roundg k1
          case measure => have := HK1.out; omega
          case rel => exact ⟨(IntKind.u64.wrap (Int.tdiv x0_1 128)), (y157), (by first | rfl | (simp; done) | (simp [*]; done)), H', ⟨by have := HK1.out; omega⟩, ⟨by (with_reducible repeat (first | apply Kd.R_alloc | apply Kd.R_drewN | apply Kd.R_drew)); exact HO159.out⟩, ⟨by repeat (first | (with_reducible first | exact HB.out | apply below_alloc | apply pw_below_drewN | apply below_drew1) | exact HB.out)⟩⟩
        · rw [if_neg c3] at H
          exact absurd H (by simp)
      · rw [if_neg c2] at H
        have c2b0 : decide (127 < x0_1) = false := decide_eq_false c2
        clear c2
        by_cases c5 : x3_1.length < 140737488355328
        · rw [if_pos c5] at H
          have LMc5 := Aside0.mk c5
          clear c5
          obtain ⟨y160, hy160⟩ : ∃ y_ : List Int, y_ = (x3_1 ++ [(x0_1) % 256]) := ⟨_, rfl⟩
          replace H : (some y160) = some r := by first | (rw [hy160]; with_reducible exact H) | (have H2_ := (Option.bind_some _ _).symm.trans H; rw [hy160]; with_reducible exact H2_) | (have H2_ := (Option.bind_some _ _).symm.trans H; with_reducible exact H2_) | with_reducible exact H | (rw [hy160]; exact H) | exact H
          have Ny160 := Aside0.mk hy160
          clear hy160
          obtain rfl := Option.some.inj H
          go_wp2_with (first | ((with_reducible refine gate_builtin (b := .append) (xs := #[.tmp 15, .tmp 18]) rfl ?_); at_builtin; refine Kd.R_append (Kd.int .u8) (w0 := w) w.heap.size rfl (.tmp 15) (.tmp 18) 30 5 (.int .u8 0) 1 rfl Try.underlying30 info5 rfl (by decide) (by omega) u3 x3_1 ((x0_1) % 256) [.int .u8 ((x0_1) % 256)] (fun _ => True) (fun _ => False) rfl rfl ?aP (fun _ hk => hk.elim) ?aF ?aO ?aB ?aS ?aL ?_; (case aP => exact rfl); (case aB => exact (by repeat (first | (with_reducible first | exact HB.out | apply below_alloc | apply pw_below_drewN | apply below_drew1) | exact HB.out))); (case aF => exact (fun _ _ => trivial)); (case aO => exact (by (with_reducible repeat (first | apply Kd.R_alloc | apply Kd.R_drewN | apply Kd.R_drew)); exact HO_3.out)); (case aS => exact (below_size (by repeat (first | (with_reducible first | exact HB.out | apply below_alloc | apply pw_below_drewN | apply below_drew1) | exact HB.out)))); (case aL => have := LMc5.out; omega); intro v161 w6 ho hb hg hat; rw [← Ny160.out] at ho; have n0_ := Aside0.mk (hb); have n1_ := Aside0.mk (ho); clear HB; clear HO_3; have HB := n0_; have HO162 := n1_; clear n0_ n1_; clear ho hb hg hat))
          go_ret
          exact ⟨_, by first | rfl | (simp [errW_none, errW_some] <;> rfl) | (simp [*, errW_none, errW_some] <;> rfl), by (with_reducible repeat (first | apply Kd.R_alloc | apply Kd.R_drewN | apply Kd.R_drew)); exact HO162.out, by repeat (first | (with_reducible first | exact HB.out | apply below_alloc | apply pw_below_drewN | apply below_drew1) | exact HB.out)⟩
        · rw [if_neg c5] at H
          exact absurd H (by simp)

end Go.Proofs.Ytalpemoodollpaa.P
/- The document's forms of numbers are the program's. -/
namespace Go.Proofs.Ytalpemoodollpaa.P
open Go.RowKit Go.Proofs.YtalpemoodollpaaW.PrintWords Go.Proofs.YtalpemoodollpaaW.PrintLast Go.Proofs.YtalpemoodollpaaW.PrintMore
set_option linter.unusedVariables false
set_option linter.unusedSimpArgs false

theorem up_ {α : Type} {f : Nat → Option α} (hm : ∀ k, LeO (f k) (f (k + 1))) {k : Nat} {r : α} (h : f k = some r) : ∀ m, k ≤ m → f m = some r := by
  intro m hm'
  induction m with
  | zero => obtain rfl : k = 0 := by omega
            exact h
  | succ m ih =>
    rcases Nat.lt_or_ge m k with h1 | h1
    · obtain rfl : k = m + 1 := by omega
      exact h
    · exact hm m r (ih h1)

theorem tmod128 (n : Int) (h : 0 ≤ n) : Int.tmod n 128 = n % 128 := Int.tmod_eq_emod_of_nonneg h
theorem tdiv128 (n : Int) (h : 0 ≤ n) : Int.tdiv n 128 = n / 128 := Int.tdiv_eq_ediv_of_nonneg h

theorem refNum_go (k : Nat) : ∀ (n : Int) (acc : List Int), 0 ≤ n → n < ((128 ^ (k + 1) : Nat) : Int) → n < 18446744073709551616 → acc.length + k < 140737488355328 →
    damperref03_Num.l0 (k + 1) n acc = some (acc ++ numForm n.toNat) := by
  induction k with
  | zero =>
    intro n acc h0 h1 h2 h3
    have h1' : n < 128 := by simpa using h1
    unfold damperref03_Num.l0
    rw [if_neg (by omega), if_pos (by omega), numForm_small h0 h1']
    congr 3
    omega
  | succ k ih =>
    intro n acc h0 h1 h2 h3
    unfold damperref03_Num.l0
    by_cases hn : n > 127
    · rw [if_pos hn, if_pos (by omega), tmod128 n h0, tdiv128 n h0, wrap_u64, wrap_u64]
      have e1 : n / 128 % 18446744073709551616 = n / 128 := by omega
      have e2 : (n % 128 + 128) % 18446744073709551616 % 256 = n % 128 + 128 := by omega
      rw [e1, e2, ih (n / 128) _ (by omega) ?_ (by omega) (by simp; omega), numForm_big (n := n) (by omega)]
      · simp
      · have : ((128 ^ (k + 1 + 1) : Nat) : Int) = ((128 ^ (k + 1) : Nat) : Int) * 128 := by rw [Nat.pow_succ]; simp
        rw [this] at h1
        omega
    · rw [if_neg hn, if_pos (by omega), numForm_small h0 (by omega)]
      congr 3
      omega
theorem refNum (n : Int) (h0 : 0 ≤ n) (h1 : n < 18446744073709551616) (m : Nat) (hm : 12 ≤ m) : damperref03_Num.f m n = some (numForm n.toNat) := by
  refine up_ (f := fun k => damperref03_Num.f k n) (k := 12) (fun k => damperref03_Num.mono n k) ?_ m hm
  have := refNum_go 11 n [] h0 (by simp; omega) h1 (by simp)
  unfold damperref03_Num.f
  simpa using this
theorem refUint_go (s : Nat) (hs : s ≤ 8) (n0 : Nat) (hn0 : n0 < 18446744073709551616) : ∀ (j : Nat) (i : Nat), i + j = s →
    damperref03_Uint.l0 (j + 1) ((n0 / 256 ^ i : Nat) : Int) (s : Int) (uintForm n0 i) (i : Int) = some (uintForm n0 s) := by
  intro j
  induction j with
  | zero =>
    intro i hi
    obtain rfl : i = s := by omega
    unfold damperref03_Uint.l0
    rw [if_neg (by omega)]
  | succ j ih =>
    intro i hi
    unfold damperref03_Uint.l0
    have hw : wrap64 ((i : Int) + 1) = ((i + 1 : Nat) : Int) := by rw [wrap64_eq]; omega
    have hle : n0 / 256 ^ i ≤ n0 := Nat.div_le_self _ _
    have hq : n0 / 256 ^ (i + 1) = n0 / 256 ^ i / 256 := by rw [Nat.pow_succ, Nat.div_div_eq_div_mul]
    have hu : uintForm n0 (i + 1) = ((n0 / 256 ^ i % 256 : Nat) : Int) :: uintForm n0 i := rfl
    have ih1 := ih (i + 1) (by omega)
    rw [hu, hq] at ih1
    clear ih hq hu
    revert ih1
    generalize n0 / 256 ^ i = q at hle
    intro ih1
    have ht : Int.tdiv (q : Int) 256 = ((q / 256 : Nat) : Int) := by
      rw [Int.tdiv_eq_ediv_of_nonneg (by omega)]
      omega
    have hm : Int.tmod (q : Int) 256 % 256 = ((q % 256 : Nat) : Int) := by
      rw [Int.tmod_eq_emod_of_nonneg (by omega)]
      omega
    have hwr : IntKind.u64.wrap ((q / 256 : Nat) : Int) = ((q / 256 : Nat) : Int) := by
      rw [wrap_u64]
      omega
    rw [if_pos (by omega), ht, hm, hwr, hw]
    simp only [Option.bind_some, List.length_cons, List.length_nil, uintForm_length]
    rw [if_pos (by omega)]
    exact ih1
theorem refUint (n s : Int) (h0 : 0 ≤ n) (h1 : n < 18446744073709551616) (hs : 1 ≤ s) (hs2 : s ≤ 8) (m : Nat) (hm : 12 ≤ m) : damperref03_Uint.f m n s = some (uintForm n.toNat s.toNat) := by
  refine up_ (f := fun k => damperref03_Uint.f k n s) (k := s.toNat + 2) (fun k => damperref03_Uint.mono n s k) ?_ m (by omega)
  show damperref03_Uint.f (s.toNat + 2) n s = _
  unfold damperref03_Uint.f
  rw [if_neg (by omega)]
  rw [show s.toNat + 2 = (s.toNat + 1) + 1 from rfl, damperref03_Uint.j0, if_neg (by simp; omega)]
  have := refUint_go s.toNat (by omega) n.toNat (by omega) s.toNat 0 (by omega)
  simpa [uintForm, Int.toNat_of_nonneg h0, Int.toNat_of_nonneg (show 0 ≤ s by omega)] using this
theorem refUint_none (n s : Int) (hs : s < 1 ∨ 8 < s) (m : Nat) (hm : 12 ≤ m) : damperref03_Uint.f m n s = some [] := by
  refine up_ (f := fun k => damperref03_Uint.f k n s) (k := 1) (fun k => damperref03_Uint.mono n s k) ?_ m (by omega)
  show damperref03_Uint.f 1 n s = _
  unfold damperref03_Uint.f
  split
  · simp [damperref03_Uint.j0]
  · simp [damperref03_Uint.j0, show s > 8 by omega]
theorem refTurned (n : Int) (h0 : -9223372036854775808 ≤ n) (h1 : n ≤ 9223372036854775807) : damperref03_turned.f n = some (zig n) := by
  unfold damperref03_turned.f zig
  split
  · rw [wrap_u64, wrap_u64]
    congr 1
    omega
  · rw [wrap_u64, wrap_u64, wrap_u64, wrap64_eq, wrap64_eq]
    congr 1
    omega
theorem refInt (n : Int) (h0 : -9223372036854775808 ≤ n) (h1 : n ≤ 9223372036854775807) (m : Nat) (hm : 12 ≤ m) : damperref03_Int.f m n = some (intForm n) := by
  unfold damperref03_Int.f
  rw [refTurned n h0 h1]
  have := zig_range n h0 h1
  simp only [Option.bind_some]
  rw [refUint (zig n) 8 this.1 this.2 (by omega) (by omega) m hm]
  rfl
theorem same_of_eq (l : List Int) : damperref03_Same.f l l = some true := by simp [damperref03_Same.f]
end Go.Proofs.Ytalpemoodollpaa.P
-- Printed by hookprint.py (the session's own program, over the kit's print.py): checked by Lean like any text.
namespace Go.Proofs.Ytalpemoodollpaa.P
open Go.RowKit Go.Proofs.YtalpemoodollpaaW.PrintWords Go.Proofs.YtalpemoodollpaaW.PrintLast Go.Proofs.YtalpemoodollpaaW.PrintMore
attribute [local go_sem] max2_int min2_int max_two min_two max_three min_three max_four min_four   -- for this text's walks alone
set_option linter.unusedVariables false
set_option linter.unusedSimpArgs false

/-! ### damperref03_ReadUint: function 106 -/
mutual
def damperref03_ReadUint.j0 : Nat → List Int → Int → Bool → Option (Int × Int × List Int × Int × Int)
  | 0, _, _, _ => none
  | k + 1, x0, x1, x12 => if x12 = true then (some (0, 0, ([] : List Int), 0, 0)) else (if (x0.length : Int) < x1 then (some (0, 0, ([] : List Int), 0, 3)) else (damperref03_ReadUint.l0 k x0 x1 0 0))
def damperref03_ReadUint.l0 : Nat → List Int → Int → Int → Int → Option (Int × Int × List Int × Int × Int)
  | 0, _, _, _, _ => none
  | k + 1, x0, x1, x5, x6 => if x6 < x1 then (if 0 ≤ x6 then (if x6 < (x0.length : Int) then (damperref03_ReadUint.l0 k x0 x1 (IntKind.u64.wrap ((IntKind.u64.wrap (x5 * 256)) + (IntKind.u64.wrap (rd x0 x6)))) (wrap64 (x6 + 1))) else (none)) else (none)) else (some (x5, 0, ([] : List Int), x1, 0))
end
def damperref03_ReadUint.f (k : Nat) (l0 : List Int) (a1 : Int) : Option (Int × Int × List Int × Int × Int) := if a1 < 1 then (damperref03_ReadUint.j0 k l0 a1 true) else (damperref03_ReadUint.j0 k l0 a1 (decide (a1 > 8)))
theorem damperref03_ReadUint.mono_l : ∀ k, (∀ y0 y1 y2, LeO (damperref03_ReadUint.j0 k y0 y1 y2) (damperref03_ReadUint.j0 (k + 1) y0 y1 y2)) ∧ (∀ y0 y1 y2 y3, LeO (damperref03_ReadUint.l0 k y0 y1 y2 y3) (damperref03_ReadUint.l0 (k + 1) y0 y1 y2 y3))
  | 0 => ⟨fun _ _ _ r h => by simp [damperref03_ReadUint.j0] at h, fun _ _ _ _ r h => by simp [damperref03_ReadUint.l0] at h⟩
  | k + 1 => by
    obtain ⟨ih0, ih1⟩ := damperref03_ReadUint.mono_l k
    refine ⟨?_, ?_⟩
    · intro y0 y1 y2
      unfold damperref03_ReadUint.j0
      repeat' first
      | (with_reducible exact ih0 _ _ _)
      | (with_reducible exact ih1 _ _ _ _)
      | (with_reducible exact LeO.refl _)
      | (with_reducible exact LeO.none _)
      | (with_reducible refine LeO.ite ?_ ?_)
      | (with_reducible refine LeO.bind ?_ (fun _ => ?_))
      | exact ih0 _ _ _
      | exact ih1 _ _ _ _
      | exact LeO.none _
      | refine LeO.ite ?_ ?_
      | refine LeO.bind ?_ (fun _ => ?_)
    · intro y0 y1 y2 y3
      unfold damperref03_ReadUint.l0
      repeat' first
      | (with_reducible exact ih0 _ _ _)
      | (with_reducible exact ih1 _ _ _ _)
      | (with_reducible exact LeO.refl _)
      | (with_reducible exact LeO.none _)
      | (with_reducible refine LeO.ite ?_ ?_)
      | (with_reducible refine LeO.bind ?_ (fun _ => ?_))
      | exact ih0 _ _ _
      | exact ih1 _ _ _ _
      | exact LeO.none _
      | refine LeO.ite ?_ ?_
      | refine LeO.bind ?_ (fun _ => ?_)
theorem damperref03_ReadUint.mono : ∀ a0 a1 k, LeO (damperref03_ReadUint.f k a0 a1) (damperref03_ReadUint.f (k + 1) a0 a1) := by
  intro a0 a1 k
  obtain ⟨ih0, ih1⟩ := damperref03_ReadUint.mono_l k
  unfold damperref03_ReadUint.f
  repeat' first
      | (with_reducible exact ih0 _ _ _)
      | (with_reducible exact ih1 _ _ _ _)
      | (with_reducible exact LeO.refl _)
      | (with_reducible exact LeO.none _)
      | (with_reducible refine LeO.ite ?_ ?_)
      | (with_reducible refine LeO.bind ?_ (fun _ => ?_))
      | exact ih0 _ _ _
      | exact ih1 _ _ _ _
      | exact LeO.none _
      | refine LeO.ite ?_ ?_
      | refine LeO.bind ?_ (fun _ => ?_)
set_option maxHeartbeats 8000000 in
set_option maxRecDepth 100000 in
theorem damperref03_ReadUint.calls (k : Nat) (A0 : Option Addr) (c0 : Nat) (l0 : List Int) (a1 : Int) (r1 : Int) (r2 : Int) (r3 : List Int) (r4 : Int) (r5 : Int) (w : World) (hr0 : Kd.C (Kd.int .u8) w A0 l0.length l0) (hc0 : l0.length ≤ c0) (h : damperref03_ReadUint.f k l0 a1 = some (r1, r2, r3, r4, r5)) :
    Calls Try.prog 106 #[.slice A0 l0.length c0, .int .i64 a1] w fun e w' => ∃ v2_ : Value, e = .returned (.agg #[.int .u64 r1, .int .i64 r2, v2_, .int .i64 r4, .int .i64 r5]) ∧ Kd.R (Kd.int .u8) 5 w' w.heap.size (fun _ => True) v2_ r3 ∧ Below w.heap.size w w' := by
  have hu81 := Try.underlying81
  have HR0 := Aside0.mk hr0
  have HC0 := Aside0.mk hc0
  clear hr0 hc0
  have HB := Aside0.mk (Below.refl w.heap.size w)
  have H : (if a1 < 1 then (damperref03_ReadUint.j0 k l0 a1 true) else (damperref03_ReadUint.j0 k l0 a1 (decide (a1 > 8)))) = some (r1, r2, r3, r4, r5) := h
  clear h
  have HC3 := Aside0.mk H
  clear H
  go_enter Try.func106, Try.ntmps106
  go_upto_region 1 with (first | ((with_reducible refine gate_dst (N := 4) rfl ?_); refine box_event ?hg (N := 4) ?hd (cs := #[.int .u64 0, .int .i64 0, .slice none 0 0, .int .i64 0, .int .i64 0]) (t := 81) ?hr ?_; (case hd => rfl); (case hg => rfl); (case hr => first | (go_simp; done) | (go_simp; rfl)); intro gb269 hg w4 hbox hb; have n0_ := Aside0.mk (below_step (by repeat (first | (with_reducible first | exact HB.out | apply below_alloc | apply pw_below_drewN | apply below_drew1) | exact HB.out)) hb); have n1_ := Aside0.mk (hbox); have n2_ := Aside0.mk ((by rw [hg]; exact (below_size (by repeat (first | (with_reducible first | exact HB.out | apply below_alloc | apply pw_below_drewN | apply below_drew1) | exact HB.out))) : w.heap.size ≤ gb269)); have n3_ := Aside0.mk ((by rw [hg]; exact (below_size (by repeat (first | (with_reducible first | exact HB.out | apply below_alloc | apply pw_below_drewN | apply below_drew1) | exact HB.out))) : w.heap.size ≤ gb269)); clear HB; have HB := n0_; have BK269 := n1_; have GW269 := n2_; have GE269 := n3_; clear n0_ n1_ n2_ n3_; clear hb hbox hg))
  (try simp only [Act.put, List.setIfInBounds_toArray, List.set_cons_zero, List.set_cons_succ])
  go_cut [12] (fun v12 wc => ∃ (kq : Nat) (x12_2 : Bool), v12 = .bool x12_2 ∧ Aside0 (damperref03_ReadUint.j0 kq l0 a1 x12_2 = some (r1, r2, r3, r4, r5)) ∧ Aside0 (kq ≤ k) ∧ Aside0 (wc.heap[gb269]? = some (.cells #[.int .u64 0, .int .i64 0, (.slice none 0 0), .int .i64 0, .int .i64 0] 81 (0, 0))) ∧ Aside0 (Below w.heap.size w wc))
  case first =>
    have H := HC3.out
    clear HC3
    by_cases c5 : a1 < 1
    · rw [if_pos c5] at H
      have c5b0 : decide (a1 < 1) = true := decide_eq_true c5
      clear c5
      (first | rw [c5b0] | (simp only [i64_w, i32_w]; rw [c5b0]) | skip)
      have H' := Aside0.mk H
      clear H
      go_wp2
      go_meet
      case rel => exact ⟨_, (true), (by first | rfl | (simp; done) | (simp [*]; done)), H', ⟨by first | omega | exact Nat.le_refl _⟩, ⟨by (with_reducible repeat (first | refine blk_drewN ?_ _ | refine blk_drew ?_ | refine blk_alloc ?_ _)); exact BK269.out⟩, ⟨by repeat (first | (with_reducible first | exact HB.out | apply below_alloc | apply pw_below_drewN | apply below_drew1 | refine below_set ?_ GE269.out) | exact HB.out)⟩⟩
    · rw [if_neg c5] at H
      have c5b0 : decide (a1 < 1) = false := decide_eq_false c5
      clear c5
      (first | rw [c5b0] | (simp only [i64_w, i32_w]; rw [c5b0]) | skip)
      have H' := Aside0.mk H
      clear H
      go_wp2
      go_meet
      case rel => exact ⟨_, (decide (a1 > 8)), (by first | rfl | (simp; done) | (simp [*]; done)), H', ⟨by first | omega | exact Nat.le_refl _⟩, ⟨by (with_reducible repeat (first | refine blk_drewN ?_ _ | refine blk_drew ?_ | refine blk_alloc ?_ _)); exact BK269.out⟩, ⟨by repeat (first | (with_reducible first | exact HB.out | apply below_alloc | apply pw_below_drewN | apply below_drew1 | refine below_set ?_ GE269.out) | exact HB.out)⟩⟩
  case rest =>
    clear HC3
    try clear c1
    try clear p2
    try clear c5
    try clear c5b0
    obtain ⟨kq, x12_2, rfl, HA, HJ2, BK269, HB⟩ := hcut
    cases kq with
    | zero => exact absurd HA.out (by simp [damperref03_ReadUint.j0])
    | succ kj2 =>
      have H := HA.out
      clear HA
      simp only [damperref03_ReadUint.j0] at H
      by_cases c6 : x12_2 = true
      · subst c6
        have H1 : (some (0, 0, ([] : List Int), 0, 0)) = some (r1, r2, r3, r4, r5) := by rw [if_pos rfl] at H; exact H
        clear H
        have H := H1
        clear H1
        simp only [Option.some.injEq, Prod.mk.injEq] at H
        obtain ⟨rfl, rfl, rfl, rfl, rfl⟩ := H
        have hcz7_0 : wc.cell? ⟨gb269, 0, none⟩ = some (.int .u64 0) := (blk_cell BK269.out 0).trans rfl
        have hcz7_1 : wc.cell? ⟨gb269, 1, none⟩ = some (.int .i64 0) := (blk_cell BK269.out 1).trans rfl
        have hcz7_2 : wc.cell? ⟨gb269, 2, none⟩ = some (.slice none 0 0) := (blk_cell BK269.out 2).trans rfl
        have hcz7_3 : wc.cell? ⟨gb269, 3, none⟩ = some (.int .i64 0) := (blk_cell BK269.out 3).trans rfl
        have hcz7_4 : wc.cell? ⟨gb269, 4, none⟩ = some (.int .i64 0) := (blk_cell BK269.out 4).trans rfl
        have hfz7_0 := blk_frozen BK269.out 0
        have hfz7_1 := blk_frozen BK269.out 1
        have hfz7_2 := blk_frozen BK269.out 2
        have hfz7_3 := blk_frozen BK269.out 3
        have hfz7_4 := blk_frozen BK269.out 4
        go_wp2
        refine bodyPost_ret (results_cell_row rfl _ _ gb269 81 #[.int .u64 0, .int .i64 0, .slice none 0 0, .int .i64 0, .int .i64 0] (0, 0) _ rfl (by (with_reducible repeat (first | refine blk_drewN ?_ _ | refine blk_drew ?_ | refine blk_alloc ?_ _)); refine blk_put (cs := #[.int .u64 0, .int .i64 0, .slice none 0 0, .int .i64 0, .int .i64 0]) ?_ 4 _ rfl; (with_reducible repeat (first | refine blk_drewN ?_ _ | refine blk_drew ?_ | refine blk_alloc ?_ _)); refine blk_put (cs := #[.int .u64 0, .int .i64 0, .slice none 0 0, .int .i64 0, .int .i64 0]) ?_ 3 _ rfl; (with_reducible repeat (first | refine blk_drewN ?_ _ | refine blk_drew ?_ | refine blk_alloc ?_ _)); refine blk_put (cs := #[.int .u64 0, .int .i64 0, .slice none 0 0, .int .i64 0, .int .i64 0]) ?_ 2 _ rfl; (with_reducible repeat (first | refine blk_drewN ?_ _ | refine blk_drew ?_ | refine blk_alloc ?_ _)); refine blk_put (cs := #[.int .u64 0, .int .i64 0, .slice none 0 0, .int .i64 0, .int .i64 0]) ?_ 1 _ rfl; (with_reducible repeat (first | refine blk_drewN ?_ _ | refine blk_drew ?_ | refine blk_alloc ?_ _)); refine blk_put (cs := #[.int .u64 0, .int .i64 0, .slice none 0 0, .int .i64 0, .int .i64 0]) ?_ 0 _ rfl; (with_reducible repeat (first | refine blk_drewN ?_ _ | refine blk_drew ?_ | refine blk_alloc ?_ _)); exact BK269.out) Try.underlying81 rfl (by kernel_rfl)) rfl ?_
        exact ⟨_, by first | rfl | (simp [errW_none, errW_some] <;> rfl) | (simp [*, errW_none, errW_some] <;> rfl), by first | exact Kd.R_nil _ _ _ _ _ | exact Kd.N_nil _ _ _ _ _ | exact Kd.V_nil _ _ _ _ _ | exact Kd.Q_nil _ _ _ _ _ | exact Kd.S_nil _ _ _ _ _, by repeat (first | (with_reducible first | exact HB.out | apply below_alloc | apply pw_below_drewN | apply below_drew1 | refine below_set ?_ GE269.out) | exact HB.out)⟩
      · replace c6 := Bool.eq_false_iff.mpr c6
        subst c6
        have H1 : (if (l0.length : Int) < a1 then (some (0, 0, ([] : List Int), 0, 3)) else (damperref03_ReadUint.l0 kj2 l0 a1 0 0)) = some (r1, r2, r3, r4, r5) := by rw [if_neg (show ¬ (false = true) by decide)] at H; exact H
        clear H
        have H := H1
        clear H1
        by_cases c8 : (l0.length : Int) < a1
        · rw [if_pos c8] at H
          have c8b0 : decide ((l0.length : Int) < a1) = true := decide_eq_true c8
          clear c8
          simp only [Option.some.injEq, Prod.mk.injEq] at H
          obtain ⟨rfl, rfl, rfl, rfl, rfl⟩ := H
          have hcz9_0 : wc.cell? ⟨gb269, 0, none⟩ = some (.int .u64 0) := (blk_cell BK269.out 0).trans rfl
          have hcz9_1 : wc.cell? ⟨gb269, 1, none⟩ = some (.int .i64 0) := (blk_cell BK269.out 1).trans rfl
          have hcz9_2 : wc.cell? ⟨gb269, 2, none⟩ = some (.slice none 0 0) := (blk_cell BK269.out 2).trans rfl
          have hcz9_3 : wc.cell? ⟨gb269, 3, none⟩ = some (.int .i64 0) := (blk_cell BK269.out 3).trans rfl
          have hcz9_4 : wc.cell? ⟨gb269, 4, none⟩ = some (.int .i64 0) := (blk_cell BK269.out 4).trans rfl
          have hfz9_0 := blk_frozen BK269.out 0
          have hfz9_1 := blk_frozen BK269.out 1
          have hfz9_2 := blk_frozen BK269.out 2
          have hfz9_3 := blk_frozen BK269.out 3
          have hfz9_4 := blk_frozen BK269.out 4
          go_wp2
          refine bodyPost_ret (results_cell_row rfl _ _ gb269 81 #[.int .u64 0, .int .i64 0, .slice none 0 0, .int .i64 0, .int .i64 3] (0, 0) _ rfl (by (with_reducible repeat (first | refine blk_drewN ?_ _ | refine blk_drew ?_ | refine blk_alloc ?_ _)); refine blk_put (cs := #[.int .u64 0, .int .i64 0, .slice none 0 0, .int .i64 0, .int .i64 0]) ?_ 4 _ rfl; (with_reducible repeat (first | refine blk_drewN ?_ _ | refine blk_drew ?_ | refine blk_alloc ?_ _)); refine blk_put (cs := #[.int .u64 0, .int .i64 0, .slice none 0 0, .int .i64 0, .int .i64 0]) ?_ 3 _ rfl; (with_reducible repeat (first | refine blk_drewN ?_ _ | refine blk_drew ?_ | refine blk_alloc ?_ _)); refine blk_put (cs := #[.int .u64 0, .int .i64 0, .slice none 0 0, .int .i64 0, .int .i64 0]) ?_ 2 _ rfl; (with_reducible repeat (first | refine blk_drewN ?_ _ | refine blk_drew ?_ | refine blk_alloc ?_ _)); refine blk_put (cs := #[.int .u64 0, .int .i64 0, .slice none 0 0, .int .i64 0, .int .i64 0]) ?_ 1 _ rfl; (with_reducible repeat (first | refine blk_drewN ?_ _ | refine blk_drew ?_ | refine blk_alloc ?_ _)); refine blk_put (cs := #[.int .u64 0, .int .i64 0, .slice none 0 0, .int .i64 0, .int .i64 0]) ?_ 0 _ rfl; (with_reducible repeat (first | refine blk_drewN ?_ _ | refine blk_drew ?_ | refine blk_alloc ?_ _)); exact BK269.out) Try.underlying81 rfl (by kernel_rfl)) rfl ?_
          exact ⟨_, by first | rfl | (simp [errW_none, errW_some] <;> rfl) | (simp [*, errW_none, errW_some] <;> rfl), by first | exact Kd.R_nil _ _ _ _ _ | exact Kd.N_nil _ _ _ _ _ | exact Kd.V_nil _ _ _ _ _ | exact Kd.Q_nil _ _ _ _ _ | exact Kd.S_nil _ _ _ _ _, by repeat (first | (with_reducible first | exact HB.out | apply below_alloc | apply pw_below_drewN | apply below_drew1 | refine below_set ?_ GE269.out) | exact HB.out)⟩
        · rw [if_neg c8] at H
          have c8b0 : decide ((l0.length : Int) < a1) = false := decide_eq_false c8
          clear c8
          have H' := Aside0.mk H
          clear H
          go_wp2
          go_loopg [5, 6] kj2 (fun kq v5 v6 w' => ∃ (x5_2 : Int) (x6_2 : Int), v5 = .int .u64 x5_2 ∧ v6 = .int .i64 x6_2 ∧ Aside0 (damperref03_ReadUint.l0 kq l0 a1 x5_2 x6_2 = some (r1, r2, r3, r4, r5)) ∧ Aside0 (kq ≤ kj2) ∧ Aside0 (w'.heap[gb269]? = some (.cells #[.int .u64 0, .int .i64 0, (.slice none 0 0), .int .i64 0, .int .i64 0] 81 (0, 0))) ∧ Aside0 (Below w.heap.size w w'))
          case atStart => exact ⟨(0), (0), (by first | rfl | (simp; done) | (simp [*]; done)), (by first | rfl | (simp; done) | (simp [*]; done)), H', ⟨Nat.le_refl _⟩, ⟨by (with_reducible repeat (first | refine blk_drewN ?_ _ | refine blk_drew ?_ | refine blk_alloc ?_ _)); exact BK269.out⟩, ⟨by repeat (first | (with_reducible first | exact HB.out | apply below_alloc | apply pw_below_drewN | apply below_drew1 | refine below_set ?_ GE269.out) | exact HB.out)⟩⟩
          case round =>
            clear H'
            try clear c1
            try clear p2
            try clear c5
            try clear c5b0
            try clear c6
            try clear c8
            try clear c8b0
            try clear hcz7_0
            try clear hcz7_1
            try clear hcz7_2
            try clear hcz7_3
            try clear hcz7_4
            try clear hcz9_0
            try clear hcz9_1
            try clear hcz9_2
            try clear hcz9_3
            try clear hcz9_4
            try clear hfz7_0
            try clear hfz7_1
            try clear hfz7_2
            try clear hfz7_3
            try clear hfz7_4
            try clear hfz9_0
            try clear hfz9_1
            try clear hfz9_2
            try clear hfz9_3
            try clear hfz9_4
            try clear p2
            obtain ⟨x5_2, x6_2, rfl, rfl, HA, HK2, BK269, HB⟩ := hrel
            cases gk with
            | zero => exact absurd HA.out (by simp [damperref03_ReadUint.l0])
            | succ k2 =>
              have H := HA.out
              clear HA
              simp only [damperref03_ReadUint.l0] at H
              by_cases c10 : x6_2 < a1
              · rw [if_pos c10] at H
                have c10b0 : decide (x6_2 < a1) = true := decide_eq_true c10
                clear c10
                by_cases c11 : 0 ≤ x6_2
                · rw [if_pos c11] at H
                  have c11b0 : decide (0 ≤ x6_2) = true := decide_eq_true c11
                  clear c11
                  by_cases c12 : x6_2 < (l0.length : Int)
                  · rw [if_pos c12] at H
                    have c12b0 : decide (x6_2 < (l0.length : Int)) = true := decide_eq_true c12
                    clear c12
                    have H' := Aside0.mk H
                    clear H
                    have p270 : 0 ≤ (x6_2 : Int) := of_decide_eq_true (by first | (with_reducible assumption) | assumption)
                    have q270 : x6_2 < (l0.length : Int) := of_decide_eq_true (by first | (with_reducible assumption) | assumption)
                    obtain ⟨ad270, e270, hx270_0⟩ := Kd.at_int HR0.out x6_2 p270 q270
                    cases e270
                    replace hx270_0 := (HB.out.cell (World.block_lt_of_cell? w _ hx270_0)).trans hx270_0
                    replace p270 := eq_true p270
                    replace q270 := eq_true q270
                    go_wp2
                    go_roundg k2
                    case measure => have := HJ2.out; have := HK2.out; omega
                    case rel => exact ⟨(IntKind.u64.wrap ((IntKind.u64.wrap (x5_2 * 256)) + (IntKind.u64.wrap (rd l0 x6_2)))), (wrap64 (x6_2 + 1)), (by first | rfl | (simp; done) | (simp [*]; done)), (by first | rfl | (simp; done) | (simp [*]; done)), H', ⟨by have := HJ2.out; have := HK2.out; omega⟩, ⟨by (with_reducible repeat (first | refine blk_drewN ?_ _ | refine blk_drew ?_ | refine blk_alloc ?_ _)); exact BK269.out⟩, ⟨by repeat (first | (with_reducible first | exact HB.out | apply below_alloc | apply pw_below_drewN | apply below_drew1 | refine below_set ?_ GE269.out) | exact HB.out)⟩⟩
                  · rw [if_neg c12] at H
                    exact absurd H (by simp)
                · rw [if_neg c11] at H
                  exact absurd H (by simp)
              · rw [if_neg c10] at H
                have c10b0 : decide (x6_2 < a1) = false := decide_eq_false c10
                clear c10
                simp only [Option.some.injEq, Prod.mk.injEq] at H
                obtain ⟨rfl, rfl, rfl, rfl, rfl⟩ := H
                have hcz13_0 : wr.cell? ⟨gb269, 0, none⟩ = some (.int .u64 0) := (blk_cell BK269.out 0).trans rfl
                have hcz13_1 : wr.cell? ⟨gb269, 1, none⟩ = some (.int .i64 0) := (blk_cell BK269.out 1).trans rfl
                have hcz13_2 : wr.cell? ⟨gb269, 2, none⟩ = some (.slice none 0 0) := (blk_cell BK269.out 2).trans rfl
                have hcz13_3 : wr.cell? ⟨gb269, 3, none⟩ = some (.int .i64 0) := (blk_cell BK269.out 3).trans rfl
                have hcz13_4 : wr.cell? ⟨gb269, 4, none⟩ = some (.int .i64 0) := (blk_cell BK269.out 4).trans rfl
                have hfz13_0 := blk_frozen BK269.out 0
                have hfz13_1 := blk_frozen BK269.out 1
                have hfz13_2 := blk_frozen BK269.out 2
                have hfz13_3 := blk_frozen BK269.out 3
                have hfz13_4 := blk_frozen BK269.out 4
                go_wp2
                refine bodyPost_ret (results_cell_row rfl _ _ gb269 81 #[.int .u64 x5_2, .int .i64 0, .slice none 0 0, .int .i64 a1, .int .i64 0] (0, 0) _ rfl (by (with_reducible repeat (first | refine blk_drewN ?_ _ | refine blk_drew ?_ | refine blk_alloc ?_ _)); refine blk_put (cs := #[.int .u64 x5_2, .int .i64 0, .slice none 0 0, .int .i64 a1, .int .i64 0]) ?_ 4 _ rfl; (with_reducible repeat (first | refine blk_drewN ?_ _ | refine blk_drew ?_ | refine blk_alloc ?_ _)); refine blk_put (cs := #[.int .u64 x5_2, .int .i64 0, .slice none 0 0, .int .i64 0, .int .i64 0]) ?_ 3 _ rfl; (with_reducible repeat (first | refine blk_drewN ?_ _ | refine blk_drew ?_ | refine blk_alloc ?_ _)); refine blk_put (cs := #[.int .u64 x5_2, .int .i64 0, .slice none 0 0, .int .i64 0, .int .i64 0]) ?_ 2 _ rfl; (with_reducible repeat (first | refine blk_drewN ?_ _ | refine blk_drew ?_ | refine blk_alloc ?_ _)); refine blk_put (cs := #[.int .u64 x5_2, .int .i64 0, .slice none 0 0, .int .i64 0, .int .i64 0]) ?_ 1 _ rfl; (with_reducible repeat (first | refine blk_drewN ?_ _ | refine blk_drew ?_ | refine blk_alloc ?_ _)); refine blk_put (cs := #[.int .u64 0, .int .i64 0, .slice none 0 0, .int .i64 0, .int .i64 0]) ?_ 0 _ rfl; (with_reducible repeat (first | refine blk_drewN ?_ _ | refine blk_drew ?_ | refine blk_alloc ?_ _)); exact BK269.out) Try.underlying81 rfl (by kernel_rfl)) rfl ?_
                exact ⟨_, by first | rfl | (simp [errW_none, errW_some] <;> rfl) | (simp [*, errW_none, errW_some] <;> rfl), by first | exact Kd.R_nil _ _ _ _ _ | exact Kd.N_nil _ _ _ _ _ | exact Kd.V_nil _ _ _ _ _ | exact Kd.Q_nil _ _ _ _ _ | exact Kd.S_nil _ _ _ _ _, by repeat (first | (with_reducible first | exact HB.out | apply below_alloc | apply pw_below_drewN | apply below_drew1 | refine below_set ?_ GE269.out) | exact HB.out)⟩

end Go.Proofs.Ytalpemoodollpaa.P
-- Printed by hookprint.py (the session's own program, over the kit's print.py): checked by Lean like any text.
namespace Go.Proofs.Ytalpemoodollpaa.P
open Go.RowKit Go.Proofs.YtalpemoodollpaaW.PrintWords Go.Proofs.YtalpemoodollpaaW.PrintLast Go.Proofs.YtalpemoodollpaaW.PrintMore
attribute [local go_sem] max2_int min2_int max_two min_two max_three min_three max_four min_four   -- for this text's walks alone
set_option linter.unusedVariables false
set_option linter.unusedSimpArgs false

/-! ### damperref03_ReadNum: function 115 -/
mutual
def damperref03_ReadNum.l0 : Nat → List Int → Int → Int → Int → Option (Int × Int × List Int × Int × Int)
  | 0, _, _, _, _ => none
  | k + 1, x0, x3, x4, x5 => if x5 < 10 then (if x5 ≥ (x0.length : Int) then (some (0, 0, ([] : List Int), 0, 3)) else (if 0 ≤ x5 then (if x5 < (x0.length : Int) then (if x5 = 9 then (damperref03_ReadNum.j1 k x0 x3 x4 x5 (IntKind.u64.wrap (Int.tmod (rd x0 x5) 128)) (decide ((IntKind.u64.wrap (Int.tmod (rd x0 x5) 128)) > 1))) else (damperref03_ReadNum.j1 k x0 x3 x4 x5 (IntKind.u64.wrap (Int.tmod (rd x0 x5) 128)) false)) else (none)) else (none))) else (some (0, 0, ([] : List Int), 0, 4))
def damperref03_ReadNum.j1 : Nat → List Int → Int → Int → Int → Int → Bool → Option (Int × Int × List Int × Int × Int)
  | 0, _, _, _, _, _, _ => none
  | k + 1, x0, x3, x4, x5, x6, x27 => if x27 = true then (some (0, 0, ([] : List Int), 0, 4)) else (if 0 ≤ x5 then (if x5 < (x0.length : Int) then (if (rd x0 x5) < 128 then (if x6 = 0 then (if x5 > 0 then (some (0, 0, ([] : List Int), 0, 4)) else (some (IntKind.u64.wrap (x3 + (IntKind.u64.wrap (x6 * x4))), 0, ([] : List Int), wrap64 (x5 + 1), 0))) else (some (IntKind.u64.wrap (x3 + (IntKind.u64.wrap (x6 * x4))), 0, ([] : List Int), wrap64 (x5 + 1), 0))) else (damperref03_ReadNum.l0 k x0 (IntKind.u64.wrap (x3 + (IntKind.u64.wrap (x6 * x4)))) (IntKind.u64.wrap (x4 * 128)) (wrap64 (x5 + 1)))) else (none)) else (none))
end
def damperref03_ReadNum.f (k : Nat) (l0 : List Int) : Option (Int × Int × List Int × Int × Int) := damperref03_ReadNum.l0 k l0 0 1 0
theorem damperref03_ReadNum.mono_l : ∀ k, (∀ y0 y1 y2 y3, LeO (damperref03_ReadNum.l0 k y0 y1 y2 y3) (damperref03_ReadNum.l0 (k + 1) y0 y1 y2 y3)) ∧ (∀ y0 y1 y2 y3 y4 y5, LeO (damperref03_ReadNum.j1 k y0 y1 y2 y3 y4 y5) (damperref03_ReadNum.j1 (k + 1) y0 y1 y2 y3 y4 y5))
  | 0 => ⟨fun _ _ _ _ r h => by simp [damperref03_ReadNum.l0] at h, fun _ _ _ _ _ _ r h => by simp [damperref03_ReadNum.j1] at h⟩
  | k + 1 => by
    obtain ⟨ih0, ih1⟩ := damperref03_ReadNum.mono_l k
    refine ⟨?_, ?_⟩
    · intro y0 y1 y2 y3
      unfold damperref03_ReadNum.l0
      repeat' first
      | (with_reducible exact ih0 _ _ _ _)
      | (with_reducible exact ih1 _ _ _ _ _ _)
      | (with_reducible exact LeO.refl _)
      | (with_reducible exact LeO.none _)
      | (with_reducible refine LeO.ite ?_ ?_)
      | (with_reducible refine LeO.bind ?_ (fun _ => ?_))
      | exact ih0 _ _ _ _
      | exact ih1 _ _ _ _ _ _
      | exact LeO.none _
      | refine LeO.ite ?_ ?_
      | refine LeO.bind ?_ (fun _ => ?_)
    · intro y0 y1 y2 y3 y4 y5
      unfold damperref03_ReadNum.j1
      repeat' first
      | (with_reducible exact ih0 _ _ _ _)
      | (with_reducible exact ih1 _ _ _ _ _ _)
      | (with_reducible exact LeO.refl _)
      | (with_reducible exact LeO.none _)
      | (with_reducible refine LeO.ite ?_ ?_)
      | (with_reducible refine LeO.bind ?_ (fun _ => ?_))
      | exact ih0 _ _ _ _
      | exact ih1 _ _ _ _ _ _
      | exact LeO.none _
      | refine LeO.ite ?_ ?_
      | refine LeO.bind ?_ (fun _ => ?_)
theorem damperref03_ReadNum.mono : ∀ a0 k, LeO (damperref03_ReadNum.f k a0) (damperref03_ReadNum.f (k + 1) a0) := by
  intro a0 k
  obtain ⟨ih0, ih1⟩ := damperref03_ReadNum.mono_l k
  unfold damperref03_ReadNum.f
  repeat' first
      | (with_reducible exact ih0 _ _ _ _)
      | (with_reducible exact ih1 _ _ _ _ _ _)
      | (with_reducible exact LeO.refl _)
      | (with_reducible exact LeO.none _)
      | (with_reducible refine LeO.ite ?_ ?_)
      | (with_reducible refine LeO.bind ?_ (fun _ => ?_))
      | exact ih0 _ _ _ _
      | exact ih1 _ _ _ _ _ _
      | exact LeO.none _
      | refine LeO.ite ?_ ?_
      | refine LeO.bind ?_ (fun _ => ?_)
set_option maxHeartbeats 8000000 in
set_option maxRecDepth 100000 in
theorem damperref03_ReadNum.calls (k : Nat) (A0 : Option Addr) (c0 : Nat) (l0 : List Int) (r1 : Int) (r2 : Int) (r3 : List Int) (r4 : Int) (r5 : Int) (w : World) (hr0 : Kd.C (Kd.int .u8) w A0 l0.length l0) (hc0 : l0.length ≤ c0) (h : damperref03_ReadNum.f k l0 = some (r1, r2, r3, r4, r5)) :
    Calls Try.prog 115 #[.slice A0 l0.length c0] w fun e w' => ∃ v2_ : Value, e = .returned (.agg #[.int .u64 r1, .int .i64 r2, v2_, .int .i64 r4, .int .i64 r5]) ∧ Kd.R (Kd.int .u8) 5 w' w.heap.size (fun _ => True) v2_ r3 ∧ Below w.heap.size w w' := by
  have hu81 := Try.underlying81
  have HR0 := Aside0.mk hr0
  have HC0 := Aside0.mk hc0
  clear hr0 hc0
  have HB := Aside0.mk (Below.refl w.heap.size w)
  have H : (damperref03_ReadNum.l0 k l0 0 1 0) = some (r1, r2, r3, r4, r5) := h
  clear h
  have H' := Aside0.mk H
  clear H
  go_enter Try.func115, Try.ntmps115
  go_wp2_with (first | ((with_reducible refine gate_dst (N := 2) rfl ?_); refine box_event ?hg (N := 2) ?hd (cs := #[.int .u64 0, .int .i64 0, .slice none 0 0, .int .i64 0, .int .i64 0]) (t := 81) ?hr ?_; (case hd => rfl); (case hg => rfl); (case hr => first | (go_simp; done) | (go_simp; rfl)); intro gb383 hg w2 hbox hb; have n0_ := Aside0.mk (below_step (by repeat (first | (with_reducible first | exact HB.out | apply below_alloc | apply pw_below_drewN | apply below_drew1) | exact HB.out)) hb); have n1_ := Aside0.mk (hbox); have n2_ := Aside0.mk ((by rw [hg]; exact (below_size (by repeat (first | (with_reducible first | exact HB.out | apply below_alloc | apply pw_below_drewN | apply below_drew1) | exact HB.out))) : w.heap.size ≤ gb383)); have n3_ := Aside0.mk ((by rw [hg]; exact (below_size (by repeat (first | (with_reducible first | exact HB.out | apply below_alloc | apply pw_below_drewN | apply below_drew1) | exact HB.out))) : w.heap.size ≤ gb383)); clear HB; have HB := n0_; have BK383 := n1_; have GW383 := n2_; have GE383 := n3_; clear n0_ n1_ n2_ n3_; clear hb hbox hg))
  go_loopg [3, 4, 5] k (fun kq v3 v4 v5 w' => ∃ (x3_1 : Int) (x4_1 : Int) (x5_1 : Int) (x384000_1 : Int) (x384001_1 : Int) (x384003_1 : Int) (x384004_1 : Int), v3 = .int .u64 x3_1 ∧ v4 = .int .u64 x4_1 ∧ v5 = .int .i64 x5_1 ∧ Aside0 (damperref03_ReadNum.l0 kq l0 x3_1 x4_1 x5_1 = some (r1, r2, r3, r4, r5)) ∧ Aside0 (kq ≤ k) ∧ Aside0 (w'.heap[gb383]? = some (.cells #[.int .u64 x384000_1, .int .i64 x384001_1, (.slice none 0 0), .int .i64 x384003_1, .int .i64 x384004_1] 81 (0, 0))) ∧ Aside0 (Below w.heap.size w w'))
  case atStart => exact ⟨(0), (1), (0), (0), (0), (0), (0), (by first | rfl | (simp; done) | (simp [*]; done)), (by first | rfl | (simp; done) | (simp [*]; done)), (by first | rfl | (simp; done) | (simp [*]; done)), H', ⟨Nat.le_refl _⟩, ⟨by (with_reducible repeat (first | refine blk_drewN ?_ _ | refine blk_drew ?_ | refine blk_alloc ?_ _)); exact BK383.out⟩, ⟨by repeat (first | (with_reducible first | exact HB.out | apply below_alloc | apply pw_below_drewN | apply below_drew1 | refine below_set ?_ GE383.out) | exact HB.out)⟩⟩
  case round =>
    clear H'
    try clear c1
    try clear p2
    obtain ⟨x3_1, x4_1, x5_1, x384000_1, x384001_1, x384003_1, x384004_1, rfl, rfl, rfl, HA, HK1, BK383, HB⟩ := hrel
    cases gk with
    | zero => exact absurd HA.out (by simp [damperref03_ReadNum.l0])
    | succ k1 =>
      have H := HA.out
      clear HA
      simp only [damperref03_ReadNum.l0] at H
      by_cases c3 : x5_1 < 10
      · rw [if_pos c3] at H
        have c3b0 : decide (x5_1 < 10) = true := decide_eq_true c3
        clear c3
        by_cases c4 : x5_1 ≥ (l0.length : Int)
        · rw [if_pos c4] at H
          have c4b0 : decide ((l0.length : Int) ≤ x5_1) = true := decide_eq_true c4
          clear c4
          simp only [Option.some.injEq, Prod.mk.injEq] at H
          obtain ⟨rfl, rfl, rfl, rfl, rfl⟩ := H
          have hcz5_0 : wr.cell? ⟨gb383, 0, none⟩ = some (.int .u64 x384000_1) := (blk_cell BK383.out 0).trans rfl
          have hcz5_1 : wr.cell? ⟨gb383, 1, none⟩ = some (.int .i64 x384001_1) := (blk_cell BK383.out 1).trans rfl
          have hcz5_2 : wr.cell? ⟨gb383, 2, none⟩ = some (.slice none 0 0) := (blk_cell BK383.out 2).trans rfl
          have hcz5_3 : wr.cell? ⟨gb383, 3, none⟩ = some (.int .i64 x384003_1) := (blk_cell BK383.out 3).trans rfl
          have hcz5_4 : wr.cell? ⟨gb383, 4, none⟩ = some (.int .i64 x384004_1) := (blk_cell BK383.out 4).trans rfl
          have hfz5_0 := blk_frozen BK383.out 0
          have hfz5_1 := blk_frozen BK383.out 1
          have hfz5_2 := blk_frozen BK383.out 2
          have hfz5_3 := blk_frozen BK383.out 3
          have hfz5_4 := blk_frozen BK383.out 4
          go_wp2
          refine bodyPost_ret (results_cell_row rfl _ _ gb383 81 #[.int .u64 0, .int .i64 0, .slice none 0 0, .int .i64 0, .int .i64 3] (0, 0) _ rfl (by (with_reducible repeat (first | refine blk_drewN ?_ _ | refine blk_drew ?_ | refine blk_alloc ?_ _)); refine blk_put (cs := #[.int .u64 0, .int .i64 0, .slice none 0 0, .int .i64 0, .int .i64 x384004_1]) ?_ 4 _ rfl; (with_reducible repeat (first | refine blk_drewN ?_ _ | refine blk_drew ?_ | refine blk_alloc ?_ _)); refine blk_put (cs := #[.int .u64 0, .int .i64 0, .slice none 0 0, .int .i64 x384003_1, .int .i64 x384004_1]) ?_ 3 _ rfl; (with_reducible repeat (first | refine blk_drewN ?_ _ | refine blk_drew ?_ | refine blk_alloc ?_ _)); refine blk_put (cs := #[.int .u64 0, .int .i64 0, .slice none 0 0, .int .i64 x384003_1, .int .i64 x384004_1]) ?_ 2 _ rfl; (with_reducible repeat (first | refine blk_drewN ?_ _ | refine blk_drew ?_ | refine blk_alloc ?_ _)); refine blk_put (cs := #[.int .u64 0, .int .i64 x384001_1, .slice none 0 0, .int .i64 x384003_1, .int .i64 x384004_1]) ?_ 1 _ rfl; (with_reducible repeat (first | refine blk_drewN ?_ _ | refine blk_drew ?_ | refine blk_alloc ?_ _)); refine blk_put (cs := #[.int .u64 x384000_1, .int .i64 x384001_1, .slice none 0 0, .int .i64 x384003_1, .int .i64 x384004_1]) ?_ 0 _ rfl; (with_reducible repeat (first | refine blk_drewN ?_ _ | refine blk_drew ?_ | refine blk_alloc ?_ _)); exact BK383.out) Try.underlying81 rfl (by kernel_rfl)) rfl ?_
          exact ⟨_, by first | rfl | (simp [errW_none, errW_some] <;> rfl) | (simp [*, errW_none, errW_some] <;> rfl), by first | exact Kd.R_nil _ _ _ _ _ | exact Kd.N_nil _ _ _ _ _ | exact Kd.V_nil _ _ _ _ _ | exact Kd.Q_nil _ _ _ _ _ | exact Kd.S_nil _ _ _ _ _, by repeat (first | (with_reducible first | exact HB.out | apply below_alloc | apply pw_below_drewN | apply below_drew1 | refine below_set ?_ GE383.out) | exact HB.out)⟩
        · rw [if_neg c4] at H
          have c4b0 : decide ((l0.length : Int) ≤ x5_1) = false := decide_eq_false c4
          clear c4
          by_cases c6 : 0 ≤ x5_1
          · rw [if_pos c6] at H
            have c6b0 : decide (0 ≤ x5_1) = true := decide_eq_true c6
            clear c6
            by_cases c7 : x5_1 < (l0.length : Int)
            · rw [if_pos c7] at H
              have c7b0 : decide (x5_1 < (l0.length : Int)) = true := decide_eq_true c7
              clear c7
              have HC8 := Aside0.mk H
              clear H
              have p384 : 0 ≤ (x5_1 : Int) := of_decide_eq_true (by first | (with_reducible assumption) | assumption)
              have q384 : x5_1 < (l0.length : Int) := of_decide_eq_true (by first | (with_reducible assumption) | assumption)
              obtain ⟨ad384, e384, hx384_0⟩ := Kd.at_int HR0.out x5_1 p384 q384
              cases e384
              replace hx384_0 := (HB.out.cell (World.block_lt_of_cell? w _ hx384_0)).trans hx384_0
              replace p384 := eq_true p384
              replace q384 := eq_true q384
              go_upto_region 8 with (fail)
              go_cut [27] (fun v27 wc => ∃ (kq : Nat) (x27_7 : Bool), v27 = .bool x27_7 ∧ Aside0 (damperref03_ReadNum.j1 kq l0 x3_1 x4_1 x5_1 (IntKind.u64.wrap (Int.tmod (rd l0 x5_1) 128)) x27_7 = some (r1, r2, r3, r4, r5)) ∧ Aside0 (kq ≤ k1) ∧ Aside0 (wc.heap[gb383]? = some (.cells #[.int .u64 x384000_1, .int .i64 x384001_1, (.slice none 0 0), .int .i64 x384003_1, .int .i64 x384004_1] 81 (0, 0))) ∧ Aside0 (Below w.heap.size w wc))
              case first =>
                have H := HC8.out
                clear HC8
                by_cases c9 : x5_1 = 9
                · rw [if_pos c9] at H
                  have c9b0 : (x5_1 == 9) = true := beq_iff_eq.mpr c9
                  have c9b1 : (x5_1 != 9) = false := bne_eq_false_iff_eq.mpr c9
                  clear c9
                  (first | rw [c9b0] | (simp only [i64_w, i32_w]; rw [c9b0]) | skip)
                  have H' := Aside0.mk H
                  clear H
                  go_wp2
                  go_meet
                  case rel => exact ⟨_, (decide ((IntKind.u64.wrap (Int.tmod (rd l0 x5_1) 128)) > 1)), (by first | rfl | (simp; done) | (simp [*]; done)), H', ⟨by have := HK1.out; first | omega | exact Nat.le_refl _⟩, ⟨by (with_reducible repeat (first | refine blk_drewN ?_ _ | refine blk_drew ?_ | refine blk_alloc ?_ _)); exact BK383.out⟩, ⟨by repeat (first | (with_reducible first | exact HB.out | apply below_alloc | apply pw_below_drewN | apply below_drew1 | refine below_set ?_ GE383.out) | exact HB.out)⟩⟩
                · rw [if_neg c9] at H
                  have c9b0 : (x5_1 == 9) = false := beq_eq_false_iff_ne.mpr c9
                  have c9b1 : (x5_1 != 9) = true := bne_iff_ne.mpr c9
                  (first | rw [c9b0] | (simp only [i64_w, i32_w]; rw [c9b0]) | skip)
                  have H' := Aside0.mk H
                  clear H
                  go_wp2
                  go_meet
                  case rel => exact ⟨_, (false), (by first | rfl | (simp; done) | (simp [*]; done)), H', ⟨by have := HK1.out; first | omega | exact Nat.le_refl _⟩, ⟨by (with_reducible repeat (first | refine blk_drewN ?_ _ | refine blk_drew ?_ | refine blk_alloc ?_ _)); exact BK383.out⟩, ⟨by repeat (first | (with_reducible first | exact HB.out | apply below_alloc | apply pw_below_drewN | apply below_drew1 | refine below_set ?_ GE383.out) | exact HB.out)⟩⟩
              case rest =>
                clear HC8
                try clear c1
                try clear p2
                try clear c3
                try clear c3b0
                try clear p3
                try clear q3
                try clear hx3
                try clear c4
                try clear c4b0
                try clear c6
                try clear c6b0
                try clear c7
                try clear c7b0
                try clear c9
                try clear c9b0
                try clear c9b1
                try clear hcz5_0
                try clear hcz5_1
                try clear hcz5_2
                try clear hcz5_3
                try clear hcz5_4
                try clear hfz5_0
                try clear hfz5_1
                try clear hfz5_2
                try clear hfz5_3
                try clear hfz5_4
                try clear hx384_0
                try clear p2
                try clear p384
                try clear q384
                obtain ⟨kq, x27_7, rfl, HA, HJ7, BK383, HB⟩ := hcut
                cases kq with
                | zero => exact absurd HA.out (by simp [damperref03_ReadNum.j1])
                | succ kj7 =>
                  have H := HA.out
                  clear HA
                  simp only [damperref03_ReadNum.j1] at H
                  by_cases c10 : x27_7 = true
                  · subst c10
                    have H1 : (some (0, 0, ([] : List Int), 0, 4)) = some (r1, r2, r3, r4, r5) := by rw [if_pos rfl] at H; exact H
                    clear H
                    have H := H1
                    clear H1
                    simp only [Option.some.injEq, Prod.mk.injEq] at H
                    obtain ⟨rfl, rfl, rfl, rfl, rfl⟩ := H
                    have hcz11_0 : wc.cell? ⟨gb383, 0, none⟩ = some (.int .u64 x384000_1) := (blk_cell BK383.out 0).trans rfl
                    have hcz11_1 : wc.cell? ⟨gb383, 1, none⟩ = some (.int .i64 x384001_1) := (blk_cell BK383.out 1).trans rfl
                    have hcz11_2 : wc.cell? ⟨gb383, 2, none⟩ = some (.slice none 0 0) := (blk_cell BK383.out 2).trans rfl
                    have hcz11_3 : wc.cell? ⟨gb383, 3, none⟩ = some (.int .i64 x384003_1) := (blk_cell BK383.out 3).trans rfl
                    have hcz11_4 : wc.cell? ⟨gb383, 4, none⟩ = some (.int .i64 x384004_1) := (blk_cell BK383.out 4).trans rfl
                    have hfz11_0 := blk_frozen BK383.out 0
                    have hfz11_1 := blk_frozen BK383.out 1
                    have hfz11_2 := blk_frozen BK383.out 2
                    have hfz11_3 := blk_frozen BK383.out 3
                    have hfz11_4 := blk_frozen BK383.out 4
                    go_wp2
                    refine bodyPost_ret (results_cell_row rfl _ _ gb383 81 #[.int .u64 0, .int .i64 0, .slice none 0 0, .int .i64 0, .int .i64 4] (0, 0) _ rfl (by (with_reducible repeat (first | refine blk_drewN ?_ _ | refine blk_drew ?_ | refine blk_alloc ?_ _)); refine blk_put (cs := #[.int .u64 0, .int .i64 0, .slice none 0 0, .int .i64 0, .int .i64 x384004_1]) ?_ 4 _ rfl; (with_reducible repeat (first | refine blk_drewN ?_ _ | refine blk_drew ?_ | refine blk_alloc ?_ _)); refine blk_put (cs := #[.int .u64 0, .int .i64 0, .slice none 0 0, .int .i64 x384003_1, .int .i64 x384004_1]) ?_ 3 _ rfl; (with_reducible repeat (first | refine blk_drewN ?_ _ | refine blk_drew ?_ | refine blk_alloc ?_ _)); refine blk_put (cs := #[.int .u64 0, .int .i64 0, .slice none 0 0, .int .i64 x384003_1, .int .i64 x384004_1]) ?_ 2 _ rfl; (with_reducible repeat (first | refine blk_drewN ?_ _ | refine blk_drew ?_ | refine blk_alloc ?_ _)); refine blk_put (cs := #[.int .u64 0, .int .i64 x384001_1, .slice none 0 0, .int .i64 x384003_1, .int .i64 x384004_1]) ?_ 1 _ rfl; (with_reducible repeat (first | refine blk_drewN ?_ _ | refine blk_drew ?_ | refine blk_alloc ?_ _)); refine blk_put (cs := #[.int .u64 x384000_1, .int .i64 x384001_1, .slice none 0 0, .int .i64 x384003_1, .int .i64 x384004_1]) ?_ 0 _ rfl; (with_reducible repeat (first | refine blk_drewN ?_ _ | refine blk_drew ?_ | refine blk_alloc ?_ _)); exact BK383.out) Try.underlying81 rfl (by kernel_rfl)) rfl ?_
                    exact ⟨_, by first | rfl | (simp [errW_none, errW_some] <;> rfl) | (simp [*, errW_none, errW_some] <;> rfl), by first | exact Kd.R_nil _ _ _ _ _ | exact Kd.N_nil _ _ _ _ _ | exact Kd.V_nil _ _ _ _ _ | exact Kd.Q_nil _ _ _ _ _ | exact Kd.S_nil _ _ _ _ _, by repeat (first | (with_reducible first | exact HB.out | apply below_alloc | apply pw_below_drewN | apply below_drew1 | refine below_set ?_ GE383.out) | exact HB.out)⟩
                  · replace c10 := Bool.eq_false_iff.mpr c10
                    subst c10
                    have H1 : (if 0 ≤ x5_1 then (if x5_1 < (l0.length : Int) then (if (rd l0 x5_1) < 128 then (if (IntKind.u64.wrap (Int.tmod (rd l0 x5_1) 128)) = 0 then (if x5_1 > 0 then (some (0, 0, ([] : List Int), 0, 4)) else (some (IntKind.u64.wrap (x3_1 + (IntKind.u64.wrap ((IntKind.u64.wrap (Int.tmod (rd l0 x5_1) 128)) * x4_1))), 0, ([] : List Int), wrap64 (x5_1 + 1), 0))) else (some (IntKind.u64.wrap (x3_1 + (IntKind.u64.wrap ((IntKind.u64.wrap (Int.tmod (rd l0 x5_1) 128)) * x4_1))), 0, ([] : List Int), wrap64 (x5_1 + 1), 0))) else (damperref03_ReadNum.l0 kj7 l0 (IntKind.u64.wrap (x3_1 + (IntKind.u64.wrap ((IntKind.u64.wrap (Int.tmod (rd l0 x5_1) 128)) * x4_1)))) (IntKind.u64.wrap (x4_1 * 128)) (wrap64 (x5_1 + 1)))) else (none)) else (none)) = some (r1, r2, r3, r4, r5) := by rw [if_neg (show ¬ (false = true) by decide)] at H; exact H
                    clear H
                    have H := H1
                    clear H1
                    by_cases c12 : 0 ≤ x5_1
                    · rw [if_pos c12] at H
                      have c12b0 : decide (0 ≤ x5_1) = true := decide_eq_true c12
                      clear c12
                      by_cases c13 : x5_1 < (l0.length : Int)
                      · rw [if_pos c13] at H
                        have c13b0 : decide (x5_1 < (l0.length : Int)) = true := decide_eq_true c13
                        clear c13
                        by_cases c14 : (rd l0 x5_1) < 128
                        · rw [if_pos c14] at H
                          have c14b0 : decide ((rd l0 x5_1) < 128) = true := decide_eq_true c14
                          clear c14
                          by_cases c15 : (IntKind.u64.wrap (Int.tmod (rd l0 x5_1) 128)) = 0
                          · rw [if_pos c15] at H
                            have c15b0 : ((IntKind.u64.wrap (Int.tmod (rd l0 x5_1) 128)) == 0) = true := beq_iff_eq.mpr c15
                            have c15b1 : ((IntKind.u64.wrap (Int.tmod (rd l0 x5_1) 128)) != 0) = false := bne_eq_false_iff_eq.mpr c15
                            clear c15
                            by_cases c16 : x5_1 > 0
                            · rw [if_pos c16] at H
                              have c16b0 : decide (0 < x5_1) = true := decide_eq_true c16
                              clear c16
                              simp only [Option.some.injEq, Prod.mk.injEq] at H
                              obtain ⟨rfl, rfl, rfl, rfl, rfl⟩ := H
                              have p385 : 0 ≤ (x5_1 : Int) := of_decide_eq_true (by first | (with_reducible assumption) | assumption)
                              have q385 : x5_1 < (l0.length : Int) := of_decide_eq_true (by first | (with_reducible assumption) | assumption)
                              obtain ⟨ad385, e385, hx385_0⟩ := Kd.at_int HR0.out x5_1 p385 q385
                              obtain rfl : ad384 = ad385 := (by injection e385)
                              replace hx385_0 := (HB.out.cell (World.block_lt_of_cell? w _ hx385_0)).trans hx385_0
                              replace p385 := eq_true p385
                              replace q385 := eq_true q385
                              have hcz17_0 : wc.cell? ⟨gb383, 0, none⟩ = some (.int .u64 x384000_1) := (blk_cell BK383.out 0).trans rfl
                              have hcz17_1 : wc.cell? ⟨gb383, 1, none⟩ = some (.int .i64 x384001_1) := (blk_cell BK383.out 1).trans rfl
                              have hcz17_2 : wc.cell? ⟨gb383, 2, none⟩ = some (.slice none 0 0) := (blk_cell BK383.out 2).trans rfl
                              have hcz17_3 : wc.cell? ⟨gb383, 3, none⟩ = some (.int .i64 x384003_1) := (blk_cell BK383.out 3).trans rfl
                              have hcz17_4 : wc.cell? ⟨gb383, 4, none⟩ = some (.int .i64 x384004_1) := (blk_cell BK383.out 4).trans rfl
                              have hfz17_0 := blk_frozen BK383.out 0
                              have hfz17_1 := blk_frozen BK383.out 1
                              have hfz17_2 := blk_frozen BK383.out 2
                              have hfz17_3 := blk_frozen BK383.out 3
                              have hfz17_4 := blk_frozen BK383.out 4
                              go_wp2
                              refine bodyPost_ret (results_cell_row rfl _ _ gb383 81 #[.int .u64 0, .int .i64 0, .slice none 0 0, .int .i64 0, .int .i64 4] (0, 0) _ rfl (by (with_reducible repeat (first | refine blk_drewN ?_ _ | refine blk_drew ?_ | refine blk_alloc ?_ _)); refine blk_put (cs := #[.int .u64 0, .int .i64 0, .slice none 0 0, .int .i64 0, .int .i64 x384004_1]) ?_ 4 _ rfl; (with_reducible repeat (first | refine blk_drewN ?_ _ | refine blk_drew ?_ | refine blk_alloc ?_ _)); refine blk_put (cs := #[.int .u64 0, .int .i64 0, .slice none 0 0, .int .i64 x384003_1, .int .i64 x384004_1]) ?_ 3 _ rfl; (with_reducible repeat (first | refine blk_drewN ?_ _ | refine blk_drew ?_ | refine blk_alloc ?_ _)); refine blk_put (cs := #[.int .u64 0, .int .i64 0, .slice none 0 0, .int .i64 x384003_1, .int .i64 x384004_1]) ?_ 2 _ rfl; (with_reducible repeat (first | refine blk_drewN ?_ _ | refine blk_drew ?_ | refine blk_alloc ?_ _)); refine blk_put (cs := #[.int .u64 0, .int .i64 x384001_1, .slice none 0 0, .int .i64 x384003_1, .int .i64 x384004_1]) ?_ 1 _ rfl; (with_reducible repeat (first | refine blk_drewN ?_ _ | refine blk_drew ?_ | refine blk_alloc ?_ _)); refine blk_put (cs := #[.int .u64 x384000_1, .int .i64 x384001_1, .slice none 0 0, .int .i64 x384003_1, .int .i64 x384004_1]) ?_ 0 _ rfl; (with_reducible repeat (first | refine blk_drewN ?_ _ | refine blk_drew ?_ | refine blk_alloc ?_ _)); exact BK383.out) Try.underlying81 rfl (by kernel_rfl)) rfl ?_
                              exact ⟨_, by first | rfl | (simp [errW_none, errW_some] <;> rfl) | (simp [*, errW_none, errW_some] <;> rfl), by first | exact Kd.R_nil _ _ _ _ _ | exact Kd.N_nil _ _ _ _ _ | exact Kd.V_nil _ _ _ _ _ | exact Kd.Q_nil _ _ _ _ _ | exact Kd.S_nil _ _ _ _ _, by repeat (first | (with_reducible first | exact HB.out | apply below_alloc | apply pw_below_drewN | apply below_drew1 | refine below_set ?_ GE383.out) | exact HB.out)⟩
                            · rw [if_neg c16] at H
                              have c16b0 : decide (0 < x5_1) = false := decide_eq_false c16
                              clear c16
                              simp only [Option.some.injEq, Prod.mk.injEq] at H
                              obtain ⟨rfl, rfl, rfl, rfl, rfl⟩ := H
                              have p385 : 0 ≤ (x5_1 : Int) := of_decide_eq_true (by first | (with_reducible assumption) | assumption)
                              have q385 : x5_1 < (l0.length : Int) := of_decide_eq_true (by first | (with_reducible assumption) | assumption)
                              obtain ⟨ad385, e385, hx385_0⟩ := Kd.at_int HR0.out x5_1 p385 q385
                              obtain rfl : ad384 = ad385 := (by injection e385)
                              replace hx385_0 := (HB.out.cell (World.block_lt_of_cell? w _ hx385_0)).trans hx385_0
                              replace p385 := eq_true p385
                              replace q385 := eq_true q385
                              have hcz18_0 : wc.cell? ⟨gb383, 0, none⟩ = some (.int .u64 x384000_1) := (blk_cell BK383.out 0).trans rfl
                              have hcz18_1 : wc.cell? ⟨gb383, 1, none⟩ = some (.int .i64 x384001_1) := (blk_cell BK383.out 1).trans rfl
                              have hcz18_2 : wc.cell? ⟨gb383, 2, none⟩ = some (.slice none 0 0) := (blk_cell BK383.out 2).trans rfl
                              have hcz18_3 : wc.cell? ⟨gb383, 3, none⟩ = some (.int .i64 x384003_1) := (blk_cell BK383.out 3).trans rfl
                              have hcz18_4 : wc.cell? ⟨gb383, 4, none⟩ = some (.int .i64 x384004_1) := (blk_cell BK383.out 4).trans rfl
                              have hfz18_0 := blk_frozen BK383.out 0
                              have hfz18_1 := blk_frozen BK383.out 1
                              have hfz18_2 := blk_frozen BK383.out 2
                              have hfz18_3 := blk_frozen BK383.out 3
                              have hfz18_4 := blk_frozen BK383.out 4
                              go_wp2
                              refine bodyPost_ret (results_cell_row rfl _ _ gb383 81 #[.int .u64 (IntKind.u64.wrap (x3_1 + (IntKind.u64.wrap ((IntKind.u64.wrap (Int.tmod (rd l0 x5_1) 128)) * x4_1)))), .int .i64 0, .slice none 0 0, .int .i64 (wrap64 (x5_1 + 1)), .int .i64 0] (0, 0) _ rfl (by (with_reducible repeat (first | refine blk_drewN ?_ _ | refine blk_drew ?_ | refine blk_alloc ?_ _)); refine blk_put (cs := #[.int .u64 (IntKind.u64.wrap (x3_1 + (IntKind.u64.wrap ((IntKind.u64.wrap (Int.tmod (rd l0 x5_1) 128)) * x4_1)))), .int .i64 0, .slice none 0 0, .int .i64 (wrap64 (x5_1 + 1)), .int .i64 x384004_1]) ?_ 4 _ rfl; (with_reducible repeat (first | refine blk_drewN ?_ _ | refine blk_drew ?_ | refine blk_alloc ?_ _)); refine blk_put (cs := #[.int .u64 (IntKind.u64.wrap (x3_1 + (IntKind.u64.wrap ((IntKind.u64.wrap (Int.tmod (rd l0 x5_1) 128)) * x4_1)))), .int .i64 0, .slice none 0 0, .int .i64 x384003_1, .int .i64 x384004_1]) ?_ 3 _ rfl; (with_reducible repeat (first | refine blk_drewN ?_ _ | refine blk_drew ?_ | refine blk_alloc ?_ _)); refine blk_put (cs := #[.int .u64 (IntKind.u64.wrap (x3_1 + (IntKind.u64.wrap ((IntKind.u64.wrap (Int.tmod (rd l0 x5_1) 128)) * x4_1)))), .int .i64 0, .slice none 0 0, .int .i64 x384003_1, .int .i64 x384004_1]) ?_ 2 _ rfl; (with_reducible repeat (first | refine blk_drewN ?_ _ | refine blk_drew ?_ | refine blk_alloc ?_ _)); refine blk_put (cs := #[.int .u64 (IntKind.u64.wrap (x3_1 + (IntKind.u64.wrap ((IntKind.u64.wrap (Int.tmod (rd l0 x5_1) 128)) * x4_1)))), .int .i64 x384001_1, .slice none 0 0, .int .i64 x384003_1, .int .i64 x384004_1]) ?_ 1 _ rfl; (with_reducible repeat (first | refine blk_drewN ?_ _ | refine blk_drew ?_ | refine blk_alloc ?_ _)); refine blk_put (cs := #[.int .u64 x384000_1, .int .i64 x384001_1, .slice none 0 0, .int .i64 x384003_1, .int .i64 x384004_1]) ?_ 0 _ rfl; (with_reducible repeat (first | refine blk_drewN ?_ _ | refine blk_drew ?_ | refine blk_alloc ?_ _)); exact BK383.out) Try.underlying81 rfl (by kernel_rfl)) rfl ?_
                              exact ⟨_, by first | rfl | (simp [errW_none, errW_some] <;> rfl) | (simp [*, errW_none, errW_some] <;> rfl), by first | exact Kd.R_nil _ _ _ _ _ | exact Kd.N_nil _ _ _ _ _ | exact Kd.V_nil _ _ _ _ _ | exact Kd.Q_nil _ _ _ _ _ | exact Kd.S_nil _ _ _ _ _, by repeat (first | (with_reducible first | exact HB.out | apply below_alloc | apply pw_below_drewN | apply below_drew1 | refine below_set ?_ GE383.out) | exact HB.out)⟩
                          · rw [if_neg c15] at H
                            have c15b0 : ((IntKind.u64.wrap (Int.tmod (rd l0 x5_1) 128)) == 0) = false := beq_eq_false_iff_ne.mpr c15
                            have c15b1 : ((IntKind.u64.wrap (Int.tmod (rd l0 x5_1) 128)) != 0) = true := bne_iff_ne.mpr c15
                            simp only [Option.some.injEq, Prod.mk.injEq] at H
                            obtain ⟨rfl, rfl, rfl, rfl, rfl⟩ := H
                            have p385 : 0 ≤ (x5_1 : Int) := of_decide_eq_true (by first | (with_reducible assumption) | assumption)
                            have q385 : x5_1 < (l0.length : Int) := of_decide_eq_true (by first | (with_reducible assumption) | assumption)
                            obtain ⟨ad385, e385, hx385_0⟩ := Kd.at_int HR0.out x5_1 p385 q385
                            obtain rfl : ad384 = ad385 := (by injection e385)
                            replace hx385_0 := (HB.out.cell (World.block_lt_of_cell? w _ hx385_0)).trans hx385_0
                            replace p385 := eq_true p385
                            replace q385 := eq_true q385
                            have hcz19_0 : wc.cell? ⟨gb383, 0, none⟩ = some (.int .u64 x384000_1) := (blk_cell BK383.out 0).trans rfl
                            have hcz19_1 : wc.cell? ⟨gb383, 1, none⟩ = some (.int .i64 x384001_1) := (blk_cell BK383.out 1).trans rfl
                            have hcz19_2 : wc.cell? ⟨gb383, 2, none⟩ = some (.slice none 0 0) := (blk_cell BK383.out 2).trans rfl
                            have hcz19_3 : wc.cell? ⟨gb383, 3, none⟩ = some (.int .i64 x384003_1) := (blk_cell BK383.out 3).trans rfl
                            have hcz19_4 : wc.cell? ⟨gb383, 4, none⟩ = some (.int .i64 x384004_1) := (blk_cell BK383.out 4).trans rfl
                            have hfz19_0 := blk_frozen BK383.out 0
                            have hfz19_1 := blk_frozen BK383.out 1
                            have hfz19_2 := blk_frozen BK383.out 2
                            have hfz19_3 := blk_frozen BK383.out 3
                            have hfz19_4 := blk_frozen BK383.out 4
                            go_wp2
                            refine bodyPost_ret (results_cell_row rfl _ _ gb383 81 #[.int .u64 (IntKind.u64.wrap (x3_1 + (IntKind.u64.wrap ((IntKind.u64.wrap (Int.tmod (rd l0 x5_1) 128)) * x4_1)))), .int .i64 0, .slice none 0 0, .int .i64 (wrap64 (x5_1 + 1)), .int .i64 0] (0, 0) _ rfl (by (with_reducible repeat (first | refine blk_drewN ?_ _ | refine blk_drew ?_ | refine blk_alloc ?_ _)); refine blk_put (cs := #[.int .u64 (IntKind.u64.wrap (x3_1 + (IntKind.u64.wrap ((IntKind.u64.wrap (Int.tmod (rd l0 x5_1) 128)) * x4_1)))), .int .i64 0, .slice none 0 0, .int .i64 (wrap64 (x5_1 + 1)), .int .i64 x384004_1]) ?_ 4 _ rfl; (with_reducible repeat (first | refine blk_drewN ?_ _ | refine blk_drew ?_ | refine blk_alloc ?_ _)); refine blk_put (cs := #[.int .u64 (IntKind.u64.wrap (x3_1 + (IntKind.u64.wrap ((IntKind.u64.wrap (Int.tmod (rd l0 x5_1) 128)) * x4_1)))), .int .i64 0, .slice none 0 0, .int .i64 x384003_1, .int .i64 x384004_1]) ?_ 3 _ rfl; (with_reducible repeat (first | refine blk_drewN ?_ _ | refine blk_drew ?_ | refine blk_alloc ?_ _)); refine blk_put (cs := #[.int .u64 (IntKind.u64.wrap (x3_1 + (IntKind.u64.wrap ((IntKind.u64.wrap (Int.tmod (rd l0 x5_1) 128)) * x4_1)))), .int .i64 0, .slice none 0 0, .int .i64 x384003_1, .int .i64 x384004_1]) ?_ 2 _ rfl; (with_reducible repeat (first | refine blk_drewN ?_ _ | refine blk_drew ?_ | refine blk_alloc ?_ _)); refine blk_put (cs := #[.int .u64 (IntKind.u64.wrap (x3_1 + (IntKind.u64.wrap ((IntKind.u64.wrap (Int.tmod (rd l0 x5_1) 128)) * x4_1)))), .int .i64 x384001_1, .slice none 0 0, .int .i64 x384003_1, .int .i64 x384004_1]) ?_ 1 _ rfl; (with_reducible repeat (first | refine blk_drewN ?_ _ | refine blk_drew ?_ | refine blk_alloc ?_ _)); refine blk_put (cs := #[.int .u64 x384000_1, .int .i64 x384001_1, .slice none 0 0, .int .i64 x384003_1, .int .i64 x384004_1]) ?_ 0 _ rfl; (with_reducible repeat (first | refine blk_drewN ?_ _ | refine blk_drew ?_ | refine blk_alloc ?_ _)); exact BK383.out) Try.underlying81 rfl (by kernel_rfl)) rfl ?_
                            exact ⟨_, by first | rfl | (simp [errW_none, errW_some] <;> rfl) | (simp [*, errW_none, errW_some] <;> rfl), by first | exact Kd.R_nil _ _ _ _ _ | exact Kd.N_nil _ _ _ _ _ | exact Kd.V_nil _ _ _ _ _ | exact Kd.Q_nil _ _ _ _ _ | exact Kd.S_nil _ _ _ _ _, by repeat (first | (with_reducible first | exact HB.out | apply below_alloc | apply pw_below_drewN | apply below_drew1 | refine below_set ?_ GE383.out) | exact HB.out)⟩
                        · rw [if_neg c14] at H
                          have c14b0 : decide ((rd l0 x5_1) < 128) = false := decide_eq_false c14
                          clear c14
                          have H' := Aside0.mk H
                          clear H
                          have p385 : 0 ≤ (x5_1 : Int) := of_decide_eq_true (by first | (with_reducible assumption) | assumption)
                          have q385 : x5_1 < (l0.length : Int) := of_decide_eq_true (by first | (with_reducible assumption) | assumption)
                          obtain ⟨ad385, e385, hx385_0⟩ := Kd.at_int HR0.out x5_1 p385 q385
                          obtain rfl : ad384 = ad385 := (by injection e385)
                          replace hx385_0 := (HB.out.cell (World.block_lt_of_cell? w _ hx385_0)).trans hx385_0
                          replace p385 := eq_true p385
                          replace q385 := eq_true q385
                          go_wp2
                          go_roundg kj7
                          case measure => have := HK1.out; have := HJ7.out; omega
                          case rel => exact ⟨(IntKind.u64.wrap (x3_1 + (IntKind.u64.wrap ((IntKind.u64.wrap (Int.tmod (rd l0 x5_1) 128)) * x4_1)))), (IntKind.u64.wrap (x4_1 * 128)), (wrap64 (x5_1 + 1)), (x384000_1), (x384001_1), (x384003_1), (x384004_1), (by first | rfl | (simp; done) | (simp [*]; done)), (by first | rfl | (simp; done) | (simp [*]; done)), (by first | rfl | (simp; done) | (simp [*]; done)), H', ⟨by have := HK1.out; have := HJ7.out; omega⟩, ⟨by (with_reducible repeat (first | refine blk_drewN ?_ _ | refine blk_drew ?_ | refine blk_alloc ?_ _)); exact BK383.out⟩, ⟨by repeat (first | (with_reducible first | exact HB.out | apply below_alloc | apply pw_below_drewN | apply below_drew1 | refine below_set ?_ GE383.out) | exact HB.out)⟩⟩
                      · rw [if_neg c13] at H
                        exact absurd H (by simp)
                    · rw [if_neg c12] at H
                      exact absurd H (by simp)
            · rw [if_neg c7] at H
              exact absurd H (by simp)
          · rw [if_neg c6] at H
            exact absurd H (by simp)
      · rw [if_neg c3] at H
        have c3b0 : decide (x5_1 < 10) = false := decide_eq_false c3
        clear c3
        simp only [Option.some.injEq, Prod.mk.injEq] at H
        obtain ⟨rfl, rfl, rfl, rfl, rfl⟩ := H
        have hcz20_0 : wr.cell? ⟨gb383, 0, none⟩ = some (.int .u64 x384000_1) := (blk_cell BK383.out 0).trans rfl
        have hcz20_1 : wr.cell? ⟨gb383, 1, none⟩ = some (.int .i64 x384001_1) := (blk_cell BK383.out 1).trans rfl
        have hcz20_2 : wr.cell? ⟨gb383, 2, none⟩ = some (.slice none 0 0) := (blk_cell BK383.out 2).trans rfl
        have hcz20_3 : wr.cell? ⟨gb383, 3, none⟩ = some (.int .i64 x384003_1) := (blk_cell BK383.out 3).trans rfl
        have hcz20_4 : wr.cell? ⟨gb383, 4, none⟩ = some (.int .i64 x384004_1) := (blk_cell BK383.out 4).trans rfl
        have hfz20_0 := blk_frozen BK383.out 0
        have hfz20_1 := blk_frozen BK383.out 1
        have hfz20_2 := blk_frozen BK383.out 2
        have hfz20_3 := blk_frozen BK383.out 3
        have hfz20_4 := blk_frozen BK383.out 4
        go_wp2
        refine bodyPost_ret (results_cell_row rfl _ _ gb383 81 #[.int .u64 0, .int .i64 0, .slice none 0 0, .int .i64 0, .int .i64 4] (0, 0) _ rfl (by (with_reducible repeat (first | refine blk_drewN ?_ _ | refine blk_drew ?_ | refine blk_alloc ?_ _)); refine blk_put (cs := #[.int .u64 0, .int .i64 0, .slice none 0 0, .int .i64 0, .int .i64 x384004_1]) ?_ 4 _ rfl; (with_reducible repeat (first | refine blk_drewN ?_ _ | refine blk_drew ?_ | refine blk_alloc ?_ _)); refine blk_put (cs := #[.int .u64 0, .int .i64 0, .slice none 0 0, .int .i64 x384003_1, .int .i64 x384004_1]) ?_ 3 _ rfl; (with_reducible repeat (first | refine blk_drewN ?_ _ | refine blk_drew ?_ | refine blk_alloc ?_ _)); refine blk_put (cs := #[.int .u64 0, .int .i64 0, .slice none 0 0, .int .i64 x384003_1, .int .i64 x384004_1]) ?_ 2 _ rfl; (with_reducible repeat (first | refine blk_drewN ?_ _ | refine blk_drew ?_ | refine blk_alloc ?_ _)); refine blk_put (cs := #[.int .u64 0, .int .i64 x384001_1, .slice none 0 0, .int .i64 x384003_1, .int .i64 x384004_1]) ?_ 1 _ rfl; (with_reducible repeat (first | refine blk_drewN ?_ _ | refine blk_drew ?_ | refine blk_alloc ?_ _)); refine blk_put (cs := #[.int .u64 x384000_1, .int .i64 x384001_1, .slice none 0 0, .int .i64 x384003_1, .int .i64 x384004_1]) ?_ 0 _ rfl; (with_reducible repeat (first | refine blk_drewN ?_ _ | refine blk_drew ?_ | refine blk_alloc ?_ _)); exact BK383.out) Try.underlying81 rfl (by kernel_rfl)) rfl ?_
        exact ⟨_, by first | rfl | (simp [errW_none, errW_some] <;> rfl) | (simp [*, errW_none, errW_some] <;> rfl), by first | exact Kd.R_nil _ _ _ _ _ | exact Kd.N_nil _ _ _ _ _ | exact Kd.V_nil _ _ _ _ _ | exact Kd.Q_nil _ _ _ _ _ | exact Kd.S_nil _ _ _ _ _, by repeat (first | (with_reducible first | exact HB.out | apply below_alloc | apply pw_below_drewN | apply below_drew1 | refine below_set ?_ GE383.out) | exact HB.out)⟩

end Go.Proofs.Ytalpemoodollpaa.P
/- What the document says is read: in the program's words. -/
namespace Go.Proofs.Ytalpemoodollpaa.P
open Go.RowKit Go.Proofs.YtalpemoodollpaaW.PrintWords Go.Proofs.YtalpemoodollpaaW.PrintLast Go.Proofs.YtalpemoodollpaaW.PrintMore
set_option linter.unusedVariables false
set_option linter.unusedSimpArgs false

theorem rd_eq (l : List Int) (i : Nat) (h : i < l.length) : rd l (i : Int) = l[i] := by
  simp [rd, List.getD_eq_getElem?_getD, h]
theorem beNum_take_succ (l : List Int) (i : Nat) (h : i < l.length) : beNum (l.take (i + 1)) = beNum (l.take i) * 256 + l[i] := by
  rw [List.take_succ_eq_append_getElem h, beNum_snoc]
theorem refReadUint_go (l : List Int) (s : Nat) (hs : s ≤ 8) (hl : s ≤ l.length) (hb : Byt l) : ∀ (j i : Nat), i + j = s →
    damperref03_ReadUint.l0 (j + 1) l (s : Int) (beNum (l.take i)) (i : Int) = some (beNum (l.take s), 0, [], (s : Int), 0) := by
  intro j
  induction j with
  | zero =>
    intro i hi
    obtain rfl : i = s := by omega
    unfold damperref03_ReadUint.l0
    rw [if_neg (by omega)]
  | succ j ih =>
    intro i hi
    have ih1 := ih (i + 1) (by omega)
    have hil : i < l.length := by omega
    have hr := beNum_range (l.take i) (hb.take i)
    have hle : (l.take i).length = i := by rw [List.length_take]; omega
    rw [hle] at hr
    have hp : 256 ^ i ≤ 256 ^ 7 := Nat.pow_le_pow_right (by decide) (by omega)
    have hbi := hb l[i] (List.getElem_mem hil)
    rw [beNum_take_succ l i hil] at ih1
    have hr2 : beNum (l.take i) < 72057594037927936 := by
      have : ((256 ^ i : Nat) : Int) ≤ ((256 ^ 7 : Nat) : Int) := by omega
      have h7 : ((256 ^ 7 : Nat) : Int) = 72057594037927936 := by decide
      omega
    have hr0 := hr.1
    clear hr hp
    unfold damperref03_ReadUint.l0
    rw [if_pos (by omega), if_pos (by omega), if_pos (by omega), rd_eq l i hil]
    generalize beNum (l.take i) = n at *
    generalize l[i] = b at *
    have e1 : IntKind.u64.wrap (IntKind.u64.wrap (n * 256) + IntKind.u64.wrap b) = n * 256 + b := by
      rw [wrap_u64, wrap_u64, wrap_u64]
      omega
    have e2 : wrap64 ((i : Int) + 1) = ((i + 1 : Nat) : Int) := by rw [wrap64_eq]; omega
    rw [e1, e2]
    exact ih1
/-- What ReadUint tells. -/
def rdUint (l : List Int) (s : Int) : Int × Int × List Int × Int × Int :=
  if s < 1 ∨ 8 < s then (0, 0, [], 0, 0) else if (l.length : Int) < s then (0, 0, [], 0, 3) else (beNum (l.take s.toNat), 0, [], s, 0)
theorem refReadUint (l : List Int) (s : Int) (hb : Byt l) (m : Nat) (hm : 12 ≤ m) : damperref03_ReadUint.f m l s = some (rdUint l s) := by
  unfold rdUint
  by_cases h1 : s < 1 ∨ 8 < s
  · rw [if_pos h1]
    refine up_ (f := fun k => damperref03_ReadUint.f k l s) (k := 1) (fun k => damperref03_ReadUint.mono l s k) ?_ m (by omega)
    show damperref03_ReadUint.f 1 l s = _
    unfold damperref03_ReadUint.f
    split
    · simp [damperref03_ReadUint.j0]
    · simp [damperref03_ReadUint.j0, show s > 8 by omega]
  · rw [if_neg h1]
    refine up_ (f := fun k => damperref03_ReadUint.f k l s) (k := s.toNat + 2) (fun k => damperref03_ReadUint.mono l s k) ?_ m (by omega)
    show damperref03_ReadUint.f (s.toNat + 2) l s = _
    unfold damperref03_ReadUint.f
    rw [if_neg (by omega), show s.toNat + 2 = (s.toNat + 1) + 1 from rfl, damperref03_ReadUint.j0, if_neg (by simp; omega)]
    by_cases h2 : (l.length : Int) < s
    · rw [if_pos h2, if_pos h2]
    · rw [if_neg h2, if_neg h2]
      have := refReadUint_go l s.toNat (by omega) (by omega) hb s.toNat 0 (by omega)
      simpa [beNum, Int.toNat_of_nonneg (show 0 ≤ s by omega)] using this

/-- What ReadNum tells, by what a reader reads. -/
def fin3 (l : List Int) (r : Int × (List Int × Int)) : Int × Int × List Int × Int × Int :=
  if r.2.2 = 0 then (r.1, 0, [], (l.length : Int) - (r.2.1.length : Int), 0) else (0, 0, [], 0, r.2.2)
set_option maxHeartbeats 1000000 in
theorem refReadNum_go (l : List Int) (hb : Byt l) (hlen : l.length ≤ 140737488355328) : ∀ (j i : Nat), i + j = 10 → i ≤ l.length → ∀ n : Int, 0 ≤ n → n < ((128 ^ i : Nat) : Int) →
    damperref03_ReadNum.l0 (2 * j + 1) l n (IntKind.u64.wrap ((128 ^ i : Nat) : Int)) (i : Int) = some (fin3 l (numGo j i n (l.drop i))) := by
  intro j
  induction j with
  | zero =>
    intro i hi hil n h0 h1
    obtain rfl : i = 10 := by omega
    unfold damperref03_ReadNum.l0 numGo
    rw [if_neg (by omega)]
    rfl
  | succ j ih =>
    intro i hi hil n h0 h1
    rw [show 2 * (j + 1) + 1 = (2 * j + 1) + 1 + 1 from by omega]
    unfold damperref03_ReadNum.l0
    rw [if_pos (by omega)]
    by_cases hll : i = l.length
    · rw [if_pos (by omega), List.drop_eq_nil_of_le (by omega)]
      rfl
    · have hi2 : i < l.length := by omega
      have hd : l.drop i = l[i] :: l.drop (i + 1) := List.drop_eq_getElem_cons hi2
      have hbi := hb l[i] (List.getElem_mem hi2)
      have ih1 := ih (i + 1) (by omega) (by omega)
      rw [if_neg (by omega), if_pos (by omega), if_pos (by omega), rd_eq l i hi2, hd]
      have hln : (l.drop (i + 1)).length = l.length - (i + 1) := by rw [List.length_drop]
      have hrd := rd_eq l i hi2
      clear ih hd hb
      generalize hrest : l.drop (i + 1) = rest at *
      generalize l[i] = b at *
      have e1 : IntKind.u64.wrap (Int.tmod b 128) = b % 128 := by
        rw [wrap_u64, Int.tmod_eq_emod_of_nonneg (by omega)]
        omega
      rw [e1]
      have hif : (if (i : Int) = 9 then damperref03_ReadNum.j1 (2 * j + 1 + 1) l n (IntKind.u64.wrap ((128 ^ i : Nat) : Int)) (i : Int) (b % 128) (decide (b % 128 > 1)) else damperref03_ReadNum.j1 (2 * j + 1 + 1) l n (IntKind.u64.wrap ((128 ^ i : Nat) : Int)) (i : Int) (b % 128) false)
          = damperref03_ReadNum.j1 (2 * j + 1 + 1) l n (IntKind.u64.wrap ((128 ^ i : Nat) : Int)) (i : Int) (b % 128) (decide (i = 9 ∧ 1 < b % 128)) := by
        by_cases h9 : i = 9
        · rw [if_pos (by omega)]
          congr 1
          simp [h9]
        · rw [if_neg (by omega)]
          congr 1
          simp [h9]
      rw [hif]
      clear hif
      rw [damperref03_ReadNum.j1, numGo]
      by_cases hc1 : i = 9 ∧ 1 < b % 128
      · rw [if_pos (by simp [hc1]), if_pos hc1]
        rfl
      · rw [if_neg (by simpa using hc1), if_neg hc1, if_pos (by omega), if_pos (by omega), hrd]
        have hp9 : 128 ^ i ≤ 9223372036854775808 := Nat.le_trans (Nat.pow_le_pow_right (by decide) (by omega : i ≤ 9)) (by decide)
        have hp8 : i ≤ 8 → 128 ^ i ≤ 72057594037927936 := fun h => Nat.le_trans (Nat.pow_le_pow_right (by decide) h) (by decide)
        have hps : ((128 ^ (i + 1) : Nat) : Int) = ((128 ^ i : Nat) : Int) * 128 := by rw [Nat.pow_succ]; simp
        rw [hps] at ih1
        have hpp : 1 ≤ 128 ^ i := Nat.pow_pos (by decide)
        generalize 128 ^ i = q at *
        have hd0 : 0 ≤ b % 128 * (q : Int) := Int.mul_nonneg (by omega) (by omega)
        have hd1 : b % 128 * (q : Int) ≤ 127 * (q : Int) := Int.mul_le_mul_of_nonneg_right (by omega) (by omega)
        have hd9 : i = 9 → b % 128 * (q : Int) ≤ 1 * (q : Int) := fun h => Int.mul_le_mul_of_nonneg_right (by omega) (by omega)
        have ew : IntKind.u64.wrap (q : Int) = (q : Int) := by rw [wrap_u64]; omega
        have ew2 : IntKind.u64.wrap ((q : Int) * 128) = IntKind.u64.wrap (IntKind.u64.wrap (q : Int) * 128) := by rw [ew]
        rw [← ew2, ew]
        generalize b % 128 * (q : Int) = t at *
        have en : IntKind.u64.wrap (n + IntKind.u64.wrap t) = n + t := by
          rw [wrap_u64, wrap_u64]
          by_cases h9 : i = 9
          · have := hd9 h9; omega
          · have := hp8 (by omega); omega
        have ei : wrap64 ((i : Int) + 1) = ((i + 1 : Nat) : Int) := by rw [wrap64_eq]; omega
        rw [en, ei]
        have hnt0 : 0 ≤ n + t := by omega
        have hnt1 : n + t < (q : Int) * 128 := by omega
        clear en ei ew ew2 hd0 hd1 hd9 hp8 hp9 hpp hps h0 h1 hrd e1 hc1
        by_cases h128 : 128 ≤ b
        · have hb2 : ¬ b < 128 := by omega
          rw [if_neg hb2, if_pos h128]
          exact ih1 (n + t) hnt0 hnt1
        · have hb2 : b < 128 := by omega
          have hfin : (l.length : Int) - (rest.length : Int) = ((i + 1 : Nat) : Int) := by omega
          rw [if_pos hb2, if_neg h128]
          clear ih1 hnt0 hnt1 hlen hln hi2 hll hil hi hbi
          by_cases hz : b % 128 = 0
          · by_cases hz2 : 0 < i
            · have hi0 : (i : Int) > 0 := by omega
              rw [if_pos hz, if_pos hi0, if_pos ⟨hz, hz2⟩]
              rfl
            · have hi0 : ¬ (i : Int) > 0 := by omega
              rw [if_pos hz, if_neg hi0, if_neg (fun h => hz2 h.2)]
              show _ = some (n + t, 0, [], (l.length : Int) - (rest.length : Int), 0)
              rw [hfin]
          · rw [if_neg hz, if_neg (fun h => hz h.1)]
            show _ = some (n + t, 0, [], (l.length : Int) - (rest.length : Int), 0)
            rw [hfin]
theorem refReadNum (l : List Int) (hb : Byt l) (hlen : l.length ≤ 140737488355328) (m : Nat) (hm : 21 ≤ m) : damperref03_ReadNum.f m l = some (fin3 l (numGo 10 0 0 l)) := by
  refine up_ (f := fun k => damperref03_ReadNum.f k l) (k := 21) (fun k => damperref03_ReadNum.mono l k) ?_ m hm
  have := refReadNum_go l hb hlen 10 0 (by omega) (by omega) 0 (by omega) (by simp)
  exact this
end Go.Proofs.Ytalpemoodollpaa.P
/- Facts that all rows of this seat need: what the head of the translation says (its words are read one by one, not by running a string). -/
namespace Go.Proofs.Ytalpemoodollpaa.row
set_option linter.unusedVariables false
set_option linter.unusedSimpArgs false
theorem and_ {a b : Bool} (h : a = true) (k : b = true) : (a && b) = true := by rw [h, k]; rfl
set_option maxRecDepth 1000000 in
theorem words0 : ∃ cs : List Char, Try.prog.initOrder.toList = cs ∧ ((behindMainWord (wordsSigns cs)).head? == some "cut".toList) = true := by
  refine ⟨_, String.toList_ofList, ?_⟩
  kernel_rfl
theorem words : ∃ rest, behindMainWord (wordsSigns Try.prog.initOrder.toList) = "cut".toList :: rest := by
  obtain ⟨cs, h, k⟩ := words0
  rw [h]
  have k := beq_iff_eq.1 k
  cases hw : behindMainWord (wordsSigns cs) with
  | nil => rw [hw] at k; cases k
  | cons a l => rw [hw] at k; injection k with k; exact ⟨l, by rw [k]⟩
theorem strip_cut (rest : List (List Char)) : stripLifts liftWords ("cut".toList :: rest) = ([], "cut".toList :: rest) := by
  simp [liftWords, stripLifts]
theorem lifts_of {P : Program} {rest : List (List Char)} (h : behindMainWord (wordsSigns P.initOrder.toList) = "cut".toList :: rest) : P.headLifts = [] := by
  unfold Program.headLifts
  rw [h, strip_cut]
  simp
theorem final_of {P : Program} {rest : List (List Char)} (h : behindMainWord (wordsSigns P.initOrder.toList) = "cut".toList :: rest) : P.liftsFinal = false := by
  unfold Program.liftsFinal
  rw [lifts_of h, h]
  simp
theorem make_of {P : Program} {rest : List (List Char)} (h : behindMainWord (wordsSigns P.initOrder.toList) = "cut".toList :: rest) : P.make = some .cut := by
  unfold Program.make
  rw [h]
  simp
theorem may_of {P : Program} {rest : List (List Char)} (h : behindMainWord (wordsSigns P.initOrder.toList) = "cut".toList :: rest) (h1 : P.laysLater = false) (h2 : P.bearsReflect = false) (h3 : P.doorFits [] = true) : P.mayEnter = true := by
  unfold Program.mayEnter
  rw [h]
  simp only [strip_cut, h1, h2, h3]
  simp
theorem may : Try.prog.mayEnter = true := by
  obtain ⟨rest, h⟩ := words
  exact may_of h (by as_aux_lemma => kernel_rfl) (by as_aux_lemma => kernel_rfl) (by as_aux_lemma => kernel_rfl)
theorem final : Try.prog.liftsFinal = false := by
  obtain ⟨rest, h⟩ := words
  exact final_of h
theorem make : Try.prog.make = some .cut := by
  obtain ⟨rest, h⟩ := words
  exact make_of h
set_option maxRecDepth 1000000 in
theorem laidOut : laidOutB Try.prog = true := by kernel_rfl
set_option maxRecDepth 1000000 in
theorem rowed : mapsRowed Try.prog = true := by kernel_rfl
set_option maxRecDepth 1000000 in
theorem heard : Try.prog.stopsHeard = true := by kernel_rfl
theorem own : ownKnob Try.prog.godebug = none := by kernel_rfl
theorem wf_u64 {a : Int} (h : (Lit.int .u64 a).wf = true) : 0 ≤ a ∧ a < 18446744073709551616 := by
  have := bounds_u64 h
  omega
theorem wf_i64 {a : Int} (h : (Lit.int .i64 a).wf = true) : -9223372036854775808 ≤ a ∧ a ≤ 9223372036854775807 := by
  have := bounds_i64 h
  omega
end Go.Proofs.Ytalpemoodollpaa.row
