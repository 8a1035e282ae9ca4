/- Contracts and plain laws: HOpen, P41, HPut, Hgot, HBox, HRK, HDS, P96, P32, HMsgPure, HmsgDec, HReadInt, HRead, HApart. -/
import Derived.Deep.Slices
import Derived.Deep.Fields
import Derived.RegionTactic
import Derived.Deep.RegionHeld3
import Derived.Test.YtalpemoodollpaaX1
/- What an input reads as: from a row's data down to the print's readings. -/
namespace Go.Proofs.Ytalpemoodollpaa.P
open Go.RowKit Go.ChangeShapes Go.WideShapes Go.Deep Go.Proofs.YtalpemoodollpaaW.PrintWords Go.Proofs.YtalpemoodollpaaW.PrintLast Go.Proofs.YtalpemoodollpaaW.PrintMore
set_option linter.unusedVariables false
set_option linter.unusedSimpArgs false

/-- What reads as data of type t reads as the kind K, and has R. -/
def Opens {α : Type} (t : TypeId) (K : Kd α) (R : α → Prop) : Prop :=
  ∀ {H : Type} {enc : TypeId × Value → H} {w : World} {fuel : Nat} {cs : List Value} {x : DataW H × List MemPlace}, DataW.trod enc Try.prog w 0 (fun _ => true) true fuel t cs = some x → ∃ a, K.K w a cs ∧ R a

theorem opens_int {t : TypeId} {k : IntKind} (ht : Try.prog.underlying t = some (.int k)) : Opens t (Kd.int k) (fun n => (Lit.int k n).wf = true) := by
  intro H enc w fuel cs x h
  obtain ⟨n, rfl, _, hw⟩ := DataW.trod_int ht h
  exact ⟨n, rfl, hw⟩

theorem addr_add_add (a : Addr) (i j : Nat) : (a.add i).add j = a.add (i + j) := by
  unfold Addr.add
  by_cases hi : i = 0
  · subst hi; simp
  · by_cases hj : j = 0
    · subst hj; simp [hi]
    · simp [hi, hj, Nat.add_assoc]
theorem opens_slice {α : Type} [Inhabited α] {t e e' : TypeId} {K : Kd α} {R : α → Prop} (ht : Try.prog.underlying t = some (.slice e)) (hc : Try.prog.cellsOf e = K.sz) (he : Opens e K R) :
    Opens t (Kd.slice e' K) (fun xs => ∀ x ∈ xs, R x) := by
  intro H enc w fuel cs x h
  rcases open_slice ht h with ⟨rfl, _⟩ | ⟨a, len, cap, m, n, D, Pl, rfl, hb, hl, hm, hmm, rfl, hx⟩
  · exact ⟨[], ⟨none, 0, rfl, Nat.le_refl _, rfl, by simp, fun h => absurd h (by simp)⟩, by simp⟩
  · have hmm : m = cap := by simpa using hmm
    subst hmm
    have hall : ∀ i, i < len → ∃ v : α, R v ∧ ∃ c : List Value, c.length = K.sz ∧ K.K w v c ∧ ∀ j u, c[j]? = some u → w.cell? (a.add (i * K.sz + j)) = some u := by
      intro i hi
      obtain ⟨cs', h1, h2⟩ := hx i (by omega)
      obtain ⟨v, hv, hr⟩ := he h2
      rw [hc] at h1
      obtain ⟨_, hlen, hcell⟩ := World.cells?_some h1
      refine ⟨v, hr, cs', hlen, hv, fun j u hu => ?_⟩
      have hj : j < K.sz := by
        obtain ⟨hl, _⟩ := List.getElem?_eq_some_iff.1 hu
        omega
      have := hcell j hj
      rw [hu] at this
      rw [← this, addr_add_add]
    have : ∃ f : Nat → α, ∀ i, i < len → R (f i) ∧ ∃ c : List Value, c.length = K.sz ∧ K.K w (f i) c ∧ ∀ j u, c[j]? = some u → w.cell? (a.add (i * K.sz + j)) = some u := by
      exact choose_lt hall
    obtain ⟨f, hf⟩ := this
    refine ⟨(List.range len).map f, ⟨some a, m, by simp, by simpa using hl, rfl, by simp; unfold maxLen at hm; omega, fun _ => ⟨a, rfl, fun j p hj => ?_⟩⟩, ?_⟩
    · obtain ⟨hj1, hj2⟩ := List.getElem?_eq_some_iff.1 hj
      simp at hj1 hj2
      subst hj2
      exact (hf j hj1).2
    · intro y hy
      simp at hy
      obtain ⟨i, hi, rfl⟩ := hy
      exact (hf i hi).1

instance : Inhabited S29 := ⟨z29⟩
instance : Inhabited S49 := ⟨z49⟩
instance : Inhabited S91 := ⟨z91⟩
theorem opens_bytes : Opens 30 (Kd.slice 5 (Kd.int .u8)) (fun xs => ∀ y ∈ xs, (Lit.int .u8 y).wf = true) := opens_slice Try.underlying30 (by kernel_rfl) (opens_int Try.underlying5)
def WF29 (x : S29) : Prop := (Lit.int .i64 x.f0).wf = true ∧ (Lit.int .i64 x.f1).wf = true ∧ (Lit.int .i64 x.f2).wf = true ∧ (Lit.int .i64 x.f3).wf = true ∧ (Lit.int .i64 x.f4).wf = true ∧ (Lit.int .i64 x.f5).wf = true ∧ (Lit.int .i64 x.f6).wf = true ∧ (Lit.int .i64 x.f7).wf = true ∧ (Lit.int .i64 x.f8).wf = true
set_option maxRecDepth 100000 in
theorem opens_29 : Opens 29 k29 WF29 := by
  intro H enc w fuel cs x h
  obtain ⟨xs, n, _, _, hl, hlen, hf⟩ := DataW.trod_struct Try.underlying29 h
  have hc : Try.prog.cellsOf 29 = 9 := by kernel_rfl
  rw [hc] at hl
  have hs : xs.length = 9 := hlen
  clear hlen h
  match cs, hl with
  | [c0, c1, c2, c3, c4, c5, c6, c7, c8], _ =>
    match xs, hs with
    | [x0, x1, x2, x3, x4, x5, x6, x7, x8], _ =>
      have t0 : DataW.trod enc Try.prog w 0 (fun _ => true) true n 3 (([c0, c1, c2, c3, c4, c5, c6, c7, c8].drop 0).take (Try.prog.cellsOf 3)) = [x0, x1, x2, x3, x4, x5, x6, x7, x8][0]? := hf 0 _ rfl
      rw [show Try.prog.cellsOf 3 = 1 by kernel_rfl] at t0
      replace t0 : DataW.trod enc Try.prog w 0 (fun _ => true) true n 3 [c0] = some x0 := t0
      have t1 : DataW.trod enc Try.prog w 0 (fun _ => true) true n 3 (([c0, c1, c2, c3, c4, c5, c6, c7, c8].drop 1).take (Try.prog.cellsOf 3)) = [x0, x1, x2, x3, x4, x5, x6, x7, x8][1]? := hf 1 _ rfl
      rw [show Try.prog.cellsOf 3 = 1 by kernel_rfl] at t1
      replace t1 : DataW.trod enc Try.prog w 0 (fun _ => true) true n 3 [c1] = some x1 := t1
      have t2 : DataW.trod enc Try.prog w 0 (fun _ => true) true n 2 (([c0, c1, c2, c3, c4, c5, c6, c7, c8].drop 2).take (Try.prog.cellsOf 2)) = [x0, x1, x2, x3, x4, x5, x6, x7, x8][2]? := hf 2 _ rfl
      rw [show Try.prog.cellsOf 2 = 1 by kernel_rfl] at t2
      replace t2 : DataW.trod enc Try.prog w 0 (fun _ => true) true n 2 [c2] = some x2 := t2
      have t3 : DataW.trod enc Try.prog w 0 (fun _ => true) true n 2 (([c0, c1, c2, c3, c4, c5, c6, c7, c8].drop 3).take (Try.prog.cellsOf 2)) = [x0, x1, x2, x3, x4, x5, x6, x7, x8][3]? := hf 3 _ rfl
      rw [show Try.prog.cellsOf 2 = 1 by kernel_rfl] at t3
      replace t3 : DataW.trod enc Try.prog w 0 (fun _ => true) true n 2 [c3] = some x3 := t3
      have t4 : DataW.trod enc Try.prog w 0 (fun _ => true) true n 2 (([c0, c1, c2, c3, c4, c5, c6, c7, c8].drop 4).take (Try.prog.cellsOf 2)) = [x0, x1, x2, x3, x4, x5, x6, x7, x8][4]? := hf 4 _ rfl
      rw [show Try.prog.cellsOf 2 = 1 by kernel_rfl] at t4
      replace t4 : DataW.trod enc Try.prog w 0 (fun _ => true) true n 2 [c4] = some x4 := t4
      have t5 : DataW.trod enc Try.prog w 0 (fun _ => true) true n 2 (([c0, c1, c2, c3, c4, c5, c6, c7, c8].drop 5).take (Try.prog.cellsOf 2)) = [x0, x1, x2, x3, x4, x5, x6, x7, x8][5]? := hf 5 _ rfl
      rw [show Try.prog.cellsOf 2 = 1 by kernel_rfl] at t5
      replace t5 : DataW.trod enc Try.prog w 0 (fun _ => true) true n 2 [c5] = some x5 := t5
      have t6 : DataW.trod enc Try.prog w 0 (fun _ => true) true n 2 (([c0, c1, c2, c3, c4, c5, c6, c7, c8].drop 6).take (Try.prog.cellsOf 2)) = [x0, x1, x2, x3, x4, x5, x6, x7, x8][6]? := hf 6 _ rfl
      rw [show Try.prog.cellsOf 2 = 1 by kernel_rfl] at t6
      replace t6 : DataW.trod enc Try.prog w 0 (fun _ => true) true n 2 [c6] = some x6 := t6
      have t7 : DataW.trod enc Try.prog w 0 (fun _ => true) true n 2 (([c0, c1, c2, c3, c4, c5, c6, c7, c8].drop 7).take (Try.prog.cellsOf 2)) = [x0, x1, x2, x3, x4, x5, x6, x7, x8][7]? := hf 7 _ rfl
      rw [show Try.prog.cellsOf 2 = 1 by kernel_rfl] at t7
      replace t7 : DataW.trod enc Try.prog w 0 (fun _ => true) true n 2 [c7] = some x7 := t7
      have t8 : DataW.trod enc Try.prog w 0 (fun _ => true) true n 3 (([c0, c1, c2, c3, c4, c5, c6, c7, c8].drop 8).take (Try.prog.cellsOf 3)) = [x0, x1, x2, x3, x4, x5, x6, x7, x8][8]? := hf 8 _ rfl
      rw [show Try.prog.cellsOf 3 = 1 by kernel_rfl] at t8
      replace t8 : DataW.trod enc Try.prog w 0 (fun _ => true) true n 3 [c8] = some x8 := t8
      clear hf
      obtain ⟨a0, e0, r0⟩ := opens_int (k := .i64) Try.underlying3 t0
      injection e0 with e0 _
      subst e0
      obtain ⟨a1, e1, r1⟩ := opens_int (k := .i64) Try.underlying3 t1
      injection e1 with e1 _
      subst e1
      obtain ⟨a2, e2, r2⟩ := opens_int (k := .i64) Try.underlying2 t2
      injection e2 with e2 _
      subst e2
      obtain ⟨a3, e3, r3⟩ := opens_int (k := .i64) Try.underlying2 t3
      injection e3 with e3 _
      subst e3
      obtain ⟨a4, e4, r4⟩ := opens_int (k := .i64) Try.underlying2 t4
      injection e4 with e4 _
      subst e4
      obtain ⟨a5, e5, r5⟩ := opens_int (k := .i64) Try.underlying2 t5
      injection e5 with e5 _
      subst e5
      obtain ⟨a6, e6, r6⟩ := opens_int (k := .i64) Try.underlying2 t6
      injection e6 with e6 _
      subst e6
      obtain ⟨a7, e7, r7⟩ := opens_int (k := .i64) Try.underlying2 t7
      injection e7 with e7 _
      subst e7
      obtain ⟨a8, e8, r8⟩ := opens_int (k := .i64) Try.underlying3 t8
      injection e8 with e8 _
      subst e8
      exact ⟨⟨a0, a1, a2, a3, a4, a5, a6, a7, a8⟩, k29_mk w _, r0 , r1 , r2 , r3 , r4 , r5 , r6 , r7 , r8⟩
def WF49 (x : S49) : Prop := (Lit.int .i64 x.f0).wf = true ∧ (Lit.int .i64 x.f1).wf = true ∧ (Lit.int .u64 x.f2).wf = true ∧ (Lit.int .i64 x.f3).wf = true ∧ (∀ y ∈ x.f4, (Lit.int .u8 y).wf = true)
set_option maxRecDepth 100000 in
theorem opens_49 : Opens 49 k49 WF49 := by
  intro H enc w fuel cs x h
  obtain ⟨xs, n, _, _, hl, hlen, hf⟩ := DataW.trod_struct Try.underlying49 h
  have hc : Try.prog.cellsOf 49 = 5 := by kernel_rfl
  rw [hc] at hl
  have hs : xs.length = 5 := hlen
  clear hlen h
  match cs, hl with
  | [c0, c1, c2, c3, c4], _ =>
    match xs, hs with
    | [x0, x1, x2, x3, x4], _ =>
      have t0 : DataW.trod enc Try.prog w 0 (fun _ => true) true n 3 (([c0, c1, c2, c3, c4].drop 0).take (Try.prog.cellsOf 3)) = [x0, x1, x2, x3, x4][0]? := hf 0 _ rfl
      rw [show Try.prog.cellsOf 3 = 1 by kernel_rfl] at t0
      replace t0 : DataW.trod enc Try.prog w 0 (fun _ => true) true n 3 [c0] = some x0 := t0
      have t1 : DataW.trod enc Try.prog w 0 (fun _ => true) true n 3 (([c0, c1, c2, c3, c4].drop 1).take (Try.prog.cellsOf 3)) = [x0, x1, x2, x3, x4][1]? := hf 1 _ rfl
      rw [show Try.prog.cellsOf 3 = 1 by kernel_rfl] at t1
      replace t1 : DataW.trod enc Try.prog w 0 (fun _ => true) true n 3 [c1] = some x1 := t1
      have t2 : DataW.trod enc Try.prog w 0 (fun _ => true) true n 37 (([c0, c1, c2, c3, c4].drop 2).take (Try.prog.cellsOf 37)) = [x0, x1, x2, x3, x4][2]? := hf 2 _ rfl
      rw [show Try.prog.cellsOf 37 = 1 by kernel_rfl] at t2
      replace t2 : DataW.trod enc Try.prog w 0 (fun _ => true) true n 37 [c2] = some x2 := t2
      have t3 : DataW.trod enc Try.prog w 0 (fun _ => true) true n 2 (([c0, c1, c2, c3, c4].drop 3).take (Try.prog.cellsOf 2)) = [x0, x1, x2, x3, x4][3]? := hf 3 _ rfl
      rw [show Try.prog.cellsOf 2 = 1 by kernel_rfl] at t3
      replace t3 : DataW.trod enc Try.prog w 0 (fun _ => true) true n 2 [c3] = some x3 := t3
      have t4 : DataW.trod enc Try.prog w 0 (fun _ => true) true n 30 (([c0, c1, c2, c3, c4].drop 4).take (Try.prog.cellsOf 30)) = [x0, x1, x2, x3, x4][4]? := hf 4 _ rfl
      rw [show Try.prog.cellsOf 30 = 1 by kernel_rfl] at t4
      replace t4 : DataW.trod enc Try.prog w 0 (fun _ => true) true n 30 [c4] = some x4 := t4
      clear hf
      obtain ⟨a0, e0, r0⟩ := opens_int (k := .i64) Try.underlying3 t0
      injection e0 with e0 _
      subst e0
      obtain ⟨a1, e1, r1⟩ := opens_int (k := .i64) Try.underlying3 t1
      injection e1 with e1 _
      subst e1
      obtain ⟨a2, e2, r2⟩ := opens_int (k := .u64) Try.underlying37 t2
      injection e2 with e2 _
      subst e2
      obtain ⟨a3, e3, r3⟩ := opens_int (k := .i64) Try.underlying2 t3
      injection e3 with e3 _
      subst e3
      obtain ⟨a4, ⟨A4, cc4, e4, l4, g4⟩, r4⟩ := opens_bytes t4
      injection e4 with e4 _
      subst e4
      exact ⟨⟨a0, a1, a2, a3, a4⟩, k49_mk w _ l4 g4, r0 , r1 , r2 , r3 , r4⟩
def WF91 (x : S91) : Prop := (Lit.int .i64 x.f0).wf = true ∧ (Lit.int .i64 x.f1).wf = true ∧ (Lit.int .i64 x.f2).wf = true ∧ (∀ y ∈ x.f3, (Lit.int .u8 y).wf = true)
set_option maxRecDepth 100000 in
theorem opens_91 : Opens 91 k91 WF91 := by
  intro H enc w fuel cs x h
  obtain ⟨xs, n, _, _, hl, hlen, hf⟩ := DataW.trod_struct Try.underlying91 h
  have hc : Try.prog.cellsOf 91 = 4 := by kernel_rfl
  rw [hc] at hl
  have hs : xs.length = 4 := hlen
  clear hlen h
  match cs, hl with
  | [c0, c1, c2, c3], _ =>
    match xs, hs with
    | [x0, x1, x2, x3], _ =>
      have t0 : DataW.trod enc Try.prog w 0 (fun _ => true) true n 3 (([c0, c1, c2, c3].drop 0).take (Try.prog.cellsOf 3)) = [x0, x1, x2, x3][0]? := hf 0 _ rfl
      rw [show Try.prog.cellsOf 3 = 1 by kernel_rfl] at t0
      replace t0 : DataW.trod enc Try.prog w 0 (fun _ => true) true n 3 [c0] = some x0 := t0
      have t1 : DataW.trod enc Try.prog w 0 (fun _ => true) true n 3 (([c0, c1, c2, c3].drop 1).take (Try.prog.cellsOf 3)) = [x0, x1, x2, x3][1]? := hf 1 _ rfl
      rw [show Try.prog.cellsOf 3 = 1 by kernel_rfl] at t1
      replace t1 : DataW.trod enc Try.prog w 0 (fun _ => true) true n 3 [c1] = some x1 := t1
      have t2 : DataW.trod enc Try.prog w 0 (fun _ => true) true n 2 (([c0, c1, c2, c3].drop 2).take (Try.prog.cellsOf 2)) = [x0, x1, x2, x3][2]? := hf 2 _ rfl
      rw [show Try.prog.cellsOf 2 = 1 by kernel_rfl] at t2
      replace t2 : DataW.trod enc Try.prog w 0 (fun _ => true) true n 2 [c2] = some x2 := t2
      have t3 : DataW.trod enc Try.prog w 0 (fun _ => true) true n 30 (([c0, c1, c2, c3].drop 3).take (Try.prog.cellsOf 30)) = [x0, x1, x2, x3][3]? := hf 3 _ rfl
      rw [show Try.prog.cellsOf 30 = 1 by kernel_rfl] at t3
      replace t3 : DataW.trod enc Try.prog w 0 (fun _ => true) true n 30 [c3] = some x3 := t3
      clear hf
      obtain ⟨a0, e0, r0⟩ := opens_int (k := .i64) Try.underlying3 t0
      injection e0 with e0 _
      subst e0
      obtain ⟨a1, e1, r1⟩ := opens_int (k := .i64) Try.underlying3 t1
      injection e1 with e1 _
      subst e1
      obtain ⟨a2, e2, r2⟩ := opens_int (k := .i64) Try.underlying2 t2
      injection e2 with e2 _
      subst e2
      obtain ⟨a3, ⟨A3, cc3, e3, l3, g3⟩, r3⟩ := opens_bytes t3
      injection e3 with e3 _
      subst e3
      exact ⟨⟨a0, a1, a2, a3⟩, k91_mk w _ l3 g3, r0 , r1 , r2 , r3⟩
set_option maxRecDepth 100000 in
theorem opened_29 {H : Type} {enc : TypeId × Value → H} {w : World} {fuel : Nat} {cs : List Value} {x : DataW H × List MemPlace} (h : DataW.trod enc Try.prog w 0 (fun _ => true) true fuel 29 cs = some x) : ∃ a0 a1 a2 a3 a4 a5 a6 a7 a8 : Int, cs = [.int .i64 a0, .int .i64 a1, .int .i64 a2, .int .i64 a3, .int .i64 a4, .int .i64 a5, .int .i64 a6, .int .i64 a7, .int .i64 a8] ∧ (Lit.int .i64 a0).wf = true ∧ (Lit.int .i64 a1).wf = true ∧ (Lit.int .i64 a2).wf = true ∧ (Lit.int .i64 a3).wf = true ∧ (Lit.int .i64 a4).wf = true ∧ (Lit.int .i64 a5).wf = true ∧ (Lit.int .i64 a6).wf = true ∧ (Lit.int .i64 a7).wf = true ∧ (Lit.int .i64 a8).wf = true := by
  obtain ⟨xs, n, _, _, hl, hlen, hf⟩ := DataW.trod_struct Try.underlying29 h
  have hc : Try.prog.cellsOf 29 = 9 := by kernel_rfl
  rw [hc] at hl
  have hs : xs.length = 9 := hlen
  clear hlen h
  match cs, hl with
  | [c0, c1, c2, c3, c4, c5, c6, c7, c8], _ =>
    match xs, hs with
    | [x0, x1, x2, x3, x4, x5, x6, x7, x8], _ =>
      have t0 : DataW.trod enc Try.prog w 0 (fun _ => true) true n 3 (([c0, c1, c2, c3, c4, c5, c6, c7, c8].drop 0).take (Try.prog.cellsOf 3)) = [x0, x1, x2, x3, x4, x5, x6, x7, x8][0]? := hf 0 _ rfl
      rw [show Try.prog.cellsOf 3 = 1 by kernel_rfl] at t0
      replace t0 : DataW.trod enc Try.prog w 0 (fun _ => true) true n 3 [c0] = some x0 := t0
      have t1 : DataW.trod enc Try.prog w 0 (fun _ => true) true n 3 (([c0, c1, c2, c3, c4, c5, c6, c7, c8].drop 1).take (Try.prog.cellsOf 3)) = [x0, x1, x2, x3, x4, x5, x6, x7, x8][1]? := hf 1 _ rfl
      rw [show Try.prog.cellsOf 3 = 1 by kernel_rfl] at t1
      replace t1 : DataW.trod enc Try.prog w 0 (fun _ => true) true n 3 [c1] = some x1 := t1
      have t2 : DataW.trod enc Try.prog w 0 (fun _ => true) true n 2 (([c0, c1, c2, c3, c4, c5, c6, c7, c8].drop 2).take (Try.prog.cellsOf 2)) = [x0, x1, x2, x3, x4, x5, x6, x7, x8][2]? := hf 2 _ rfl
      rw [show Try.prog.cellsOf 2 = 1 by kernel_rfl] at t2
      replace t2 : DataW.trod enc Try.prog w 0 (fun _ => true) true n 2 [c2] = some x2 := t2
      have t3 : DataW.trod enc Try.prog w 0 (fun _ => true) true n 2 (([c0, c1, c2, c3, c4, c5, c6, c7, c8].drop 3).take (Try.prog.cellsOf 2)) = [x0, x1, x2, x3, x4, x5, x6, x7, x8][3]? := hf 3 _ rfl
      rw [show Try.prog.cellsOf 2 = 1 by kernel_rfl] at t3
      replace t3 : DataW.trod enc Try.prog w 0 (fun _ => true) true n 2 [c3] = some x3 := t3
      have t4 : DataW.trod enc Try.prog w 0 (fun _ => true) true n 2 (([c0, c1, c2, c3, c4, c5, c6, c7, c8].drop 4).take (Try.prog.cellsOf 2)) = [x0, x1, x2, x3, x4, x5, x6, x7, x8][4]? := hf 4 _ rfl
      rw [show Try.prog.cellsOf 2 = 1 by kernel_rfl] at t4
      replace t4 : DataW.trod enc Try.prog w 0 (fun _ => true) true n 2 [c4] = some x4 := t4
      have t5 : DataW.trod enc Try.prog w 0 (fun _ => true) true n 2 (([c0, c1, c2, c3, c4, c5, c6, c7, c8].drop 5).take (Try.prog.cellsOf 2)) = [x0, x1, x2, x3, x4, x5, x6, x7, x8][5]? := hf 5 _ rfl
      rw [show Try.prog.cellsOf 2 = 1 by kernel_rfl] at t5
      replace t5 : DataW.trod enc Try.prog w 0 (fun _ => true) true n 2 [c5] = some x5 := t5
      have t6 : DataW.trod enc Try.prog w 0 (fun _ => true) true n 2 (([c0, c1, c2, c3, c4, c5, c6, c7, c8].drop 6).take (Try.prog.cellsOf 2)) = [x0, x1, x2, x3, x4, x5, x6, x7, x8][6]? := hf 6 _ rfl
      rw [show Try.prog.cellsOf 2 = 1 by kernel_rfl] at t6
      replace t6 : DataW.trod enc Try.prog w 0 (fun _ => true) true n 2 [c6] = some x6 := t6
      have t7 : DataW.trod enc Try.prog w 0 (fun _ => true) true n 2 (([c0, c1, c2, c3, c4, c5, c6, c7, c8].drop 7).take (Try.prog.cellsOf 2)) = [x0, x1, x2, x3, x4, x5, x6, x7, x8][7]? := hf 7 _ rfl
      rw [show Try.prog.cellsOf 2 = 1 by kernel_rfl] at t7
      replace t7 : DataW.trod enc Try.prog w 0 (fun _ => true) true n 2 [c7] = some x7 := t7
      have t8 : DataW.trod enc Try.prog w 0 (fun _ => true) true n 3 (([c0, c1, c2, c3, c4, c5, c6, c7, c8].drop 8).take (Try.prog.cellsOf 3)) = [x0, x1, x2, x3, x4, x5, x6, x7, x8][8]? := hf 8 _ rfl
      rw [show Try.prog.cellsOf 3 = 1 by kernel_rfl] at t8
      replace t8 : DataW.trod enc Try.prog w 0 (fun _ => true) true n 3 [c8] = some x8 := t8
      clear hf
      obtain ⟨a0, e0, r0⟩ := opens_int (k := .i64) Try.underlying3 t0
      injection e0 with e0 _
      subst e0
      obtain ⟨a1, e1, r1⟩ := opens_int (k := .i64) Try.underlying3 t1
      injection e1 with e1 _
      subst e1
      obtain ⟨a2, e2, r2⟩ := opens_int (k := .i64) Try.underlying2 t2
      injection e2 with e2 _
      subst e2
      obtain ⟨a3, e3, r3⟩ := opens_int (k := .i64) Try.underlying2 t3
      injection e3 with e3 _
      subst e3
      obtain ⟨a4, e4, r4⟩ := opens_int (k := .i64) Try.underlying2 t4
      injection e4 with e4 _
      subst e4
      obtain ⟨a5, e5, r5⟩ := opens_int (k := .i64) Try.underlying2 t5
      injection e5 with e5 _
      subst e5
      obtain ⟨a6, e6, r6⟩ := opens_int (k := .i64) Try.underlying2 t6
      injection e6 with e6 _
      subst e6
      obtain ⟨a7, e7, r7⟩ := opens_int (k := .i64) Try.underlying2 t7
      injection e7 with e7 _
      subst e7
      obtain ⟨a8, e8, r8⟩ := opens_int (k := .i64) Try.underlying3 t8
      injection e8 with e8 _
      subst e8
      exact ⟨a0, a1, a2, a3, a4, a5, a6, a7, a8, rfl, r0, r1, r2, r3, r4, r5, r6, r7, r8⟩
set_option maxRecDepth 100000 in
theorem opened_95 {H : Type} {enc : TypeId × Value → H} {w : World} {fuel : Nat} {cs : List Value} {x : DataW H × List MemPlace} (h : DataW.trod enc Try.prog w 0 (fun _ => true) true fuel 95 cs = some x) : ∃ a0 a1 a2 a3 a4 a5 a6 a7 a8 : Int, cs = [.int .i64 a0, .int .i64 a1, .int .i64 a2, .int .i64 a3, .int .i64 a4, .int .i64 a5, .int .i64 a6, .int .i64 a7, .int .i64 a8] ∧ (Lit.int .i64 a0).wf = true ∧ (Lit.int .i64 a1).wf = true ∧ (Lit.int .i64 a2).wf = true ∧ (Lit.int .i64 a3).wf = true ∧ (Lit.int .i64 a4).wf = true ∧ (Lit.int .i64 a5).wf = true ∧ (Lit.int .i64 a6).wf = true ∧ (Lit.int .i64 a7).wf = true ∧ (Lit.int .i64 a8).wf = true := by
  obtain ⟨xs, n, _, _, hl, hlen, hf⟩ := DataW.trod_struct Try.underlying95 h
  have hc : Try.prog.cellsOf 95 = 9 := by kernel_rfl
  rw [hc] at hl
  have hs : xs.length = 9 := hlen
  clear hlen h
  match cs, hl with
  | [c0, c1, c2, c3, c4, c5, c6, c7, c8], _ =>
    match xs, hs with
    | [x0, x1, x2, x3, x4, x5, x6, x7, x8], _ =>
      have t0 : DataW.trod enc Try.prog w 0 (fun _ => true) true n 3 (([c0, c1, c2, c3, c4, c5, c6, c7, c8].drop 0).take (Try.prog.cellsOf 3)) = [x0, x1, x2, x3, x4, x5, x6, x7, x8][0]? := hf 0 _ rfl
      rw [show Try.prog.cellsOf 3 = 1 by kernel_rfl] at t0
      replace t0 : DataW.trod enc Try.prog w 0 (fun _ => true) true n 3 [c0] = some x0 := t0
      have t1 : DataW.trod enc Try.prog w 0 (fun _ => true) true n 3 (([c0, c1, c2, c3, c4, c5, c6, c7, c8].drop 1).take (Try.prog.cellsOf 3)) = [x0, x1, x2, x3, x4, x5, x6, x7, x8][1]? := hf 1 _ rfl
      rw [show Try.prog.cellsOf 3 = 1 by kernel_rfl] at t1
      replace t1 : DataW.trod enc Try.prog w 0 (fun _ => true) true n 3 [c1] = some x1 := t1
      have t2 : DataW.trod enc Try.prog w 0 (fun _ => true) true n 2 (([c0, c1, c2, c3, c4, c5, c6, c7, c8].drop 2).take (Try.prog.cellsOf 2)) = [x0, x1, x2, x3, x4, x5, x6, x7, x8][2]? := hf 2 _ rfl
      rw [show Try.prog.cellsOf 2 = 1 by kernel_rfl] at t2
      replace t2 : DataW.trod enc Try.prog w 0 (fun _ => true) true n 2 [c2] = some x2 := t2
      have t3 : DataW.trod enc Try.prog w 0 (fun _ => true) true n 3 (([c0, c1, c2, c3, c4, c5, c6, c7, c8].drop 3).take (Try.prog.cellsOf 3)) = [x0, x1, x2, x3, x4, x5, x6, x7, x8][3]? := hf 3 _ rfl
      rw [show Try.prog.cellsOf 3 = 1 by kernel_rfl] at t3
      replace t3 : DataW.trod enc Try.prog w 0 (fun _ => true) true n 3 [c3] = some x3 := t3
      have t4 : DataW.trod enc Try.prog w 0 (fun _ => true) true n 3 (([c0, c1, c2, c3, c4, c5, c6, c7, c8].drop 4).take (Try.prog.cellsOf 3)) = [x0, x1, x2, x3, x4, x5, x6, x7, x8][4]? := hf 4 _ rfl
      rw [show Try.prog.cellsOf 3 = 1 by kernel_rfl] at t4
      replace t4 : DataW.trod enc Try.prog w 0 (fun _ => true) true n 3 [c4] = some x4 := t4
      have t5 : DataW.trod enc Try.prog w 0 (fun _ => true) true n 3 (([c0, c1, c2, c3, c4, c5, c6, c7, c8].drop 5).take (Try.prog.cellsOf 3)) = [x0, x1, x2, x3, x4, x5, x6, x7, x8][5]? := hf 5 _ rfl
      rw [show Try.prog.cellsOf 3 = 1 by kernel_rfl] at t5
      replace t5 : DataW.trod enc Try.prog w 0 (fun _ => true) true n 3 [c5] = some x5 := t5
      have t6 : DataW.trod enc Try.prog w 0 (fun _ => true) true n 2 (([c0, c1, c2, c3, c4, c5, c6, c7, c8].drop 6).take (Try.prog.cellsOf 2)) = [x0, x1, x2, x3, x4, x5, x6, x7, x8][6]? := hf 6 _ rfl
      rw [show Try.prog.cellsOf 2 = 1 by kernel_rfl] at t6
      replace t6 : DataW.trod enc Try.prog w 0 (fun _ => true) true n 2 [c6] = some x6 := t6
      have t7 : DataW.trod enc Try.prog w 0 (fun _ => true) true n 2 (([c0, c1, c2, c3, c4, c5, c6, c7, c8].drop 7).take (Try.prog.cellsOf 2)) = [x0, x1, x2, x3, x4, x5, x6, x7, x8][7]? := hf 7 _ rfl
      rw [show Try.prog.cellsOf 2 = 1 by kernel_rfl] at t7
      replace t7 : DataW.trod enc Try.prog w 0 (fun _ => true) true n 2 [c7] = some x7 := t7
      have t8 : DataW.trod enc Try.prog w 0 (fun _ => true) true n 3 (([c0, c1, c2, c3, c4, c5, c6, c7, c8].drop 8).take (Try.prog.cellsOf 3)) = [x0, x1, x2, x3, x4, x5, x6, x7, x8][8]? := hf 8 _ rfl
      rw [show Try.prog.cellsOf 3 = 1 by kernel_rfl] at t8
      replace t8 : DataW.trod enc Try.prog w 0 (fun _ => true) true n 3 [c8] = some x8 := t8
      clear hf
      obtain ⟨a0, e0, r0⟩ := opens_int (k := .i64) Try.underlying3 t0
      injection e0 with e0 _
      subst e0
      obtain ⟨a1, e1, r1⟩ := opens_int (k := .i64) Try.underlying3 t1
      injection e1 with e1 _
      subst e1
      obtain ⟨a2, e2, r2⟩ := opens_int (k := .i64) Try.underlying2 t2
      injection e2 with e2 _
      subst e2
      obtain ⟨a3, e3, r3⟩ := opens_int (k := .i64) Try.underlying3 t3
      injection e3 with e3 _
      subst e3
      obtain ⟨a4, e4, r4⟩ := opens_int (k := .i64) Try.underlying3 t4
      injection e4 with e4 _
      subst e4
      obtain ⟨a5, e5, r5⟩ := opens_int (k := .i64) Try.underlying3 t5
      injection e5 with e5 _
      subst e5
      obtain ⟨a6, e6, r6⟩ := opens_int (k := .i64) Try.underlying2 t6
      injection e6 with e6 _
      subst e6
      obtain ⟨a7, e7, r7⟩ := opens_int (k := .i64) Try.underlying2 t7
      injection e7 with e7 _
      subst e7
      obtain ⟨a8, e8, r8⟩ := opens_int (k := .i64) Try.underlying3 t8
      injection e8 with e8 _
      subst e8
      exact ⟨a0, a1, a2, a3, a4, a5, a6, a7, a8, rfl, r0, r1, r2, r3, r4, r5, r6, r7, r8⟩
set_option maxRecDepth 100000 in
theorem open_arg29 {H : Type} {enc : TypeId × Value → H} {w : World} {r : Reach} {b0 : Nat} {v : Value} {d : DataW H} {ps : List MemPlace} (hval : Value.okWide Try.prog w r b0 29 v) (hd : DataW.Trod enc Try.prog w 0 (fun _ => true) true 29 v d ps) :
    ∃ a0 a1 a2 a3 a4 a5 a6 a7 a8 : Int, v = .agg #[.int .i64 a0, .int .i64 a1, .int .i64 a2, .int .i64 a3, .int .i64 a4, .int .i64 a5, .int .i64 a6, .int .i64 a7, .int .i64 a8] ∧ (Lit.int .i64 a0).wf = true ∧ (Lit.int .i64 a1).wf = true ∧ (Lit.int .i64 a2).wf = true ∧ (Lit.int .i64 a3).wf = true ∧ (Lit.int .i64 a4).wf = true ∧ (Lit.int .i64 a5).wf = true ∧ (Lit.int .i64 a6).wf = true ∧ (Lit.int .i64 a7).wf = true ∧ (Lit.int .i64 a8).wf = true := by
  have hv := hval
  unfold Value.okWide at hv
  rw [Try.underlying29] at hv
  obtain ⟨cs, rfl, _, _⟩ := hv
  obtain ⟨fuel, hf⟩ := hd
  obtain ⟨a0, a1, a2, a3, a4, a5, a6, a7, a8, hc, hw⟩ := opened_29 hf
  refine ⟨a0, a1, a2, a3, a4, a5, a6, a7, a8, ?_, hw⟩
  have : cs = #[.int .i64 a0, .int .i64 a1, .int .i64 a2, .int .i64 a3, .int .i64 a4, .int .i64 a5, .int .i64 a6, .int .i64 a7, .int .i64 a8] := by
    apply Array.toList_inj.1
    exact hc
  rw [this]
set_option maxRecDepth 100000 in
theorem open_arg95 {H : Type} {enc : TypeId × Value → H} {w : World} {r : Reach} {b0 : Nat} {v : Value} {d : DataW H} {ps : List MemPlace} (hval : Value.okWide Try.prog w r b0 95 v) (hd : DataW.Trod enc Try.prog w 0 (fun _ => true) true 95 v d ps) :
    ∃ a0 a1 a2 a3 a4 a5 a6 a7 a8 : Int, v = .agg #[.int .i64 a0, .int .i64 a1, .int .i64 a2, .int .i64 a3, .int .i64 a4, .int .i64 a5, .int .i64 a6, .int .i64 a7, .int .i64 a8] ∧ (Lit.int .i64 a0).wf = true ∧ (Lit.int .i64 a1).wf = true ∧ (Lit.int .i64 a2).wf = true ∧ (Lit.int .i64 a3).wf = true ∧ (Lit.int .i64 a4).wf = true ∧ (Lit.int .i64 a5).wf = true ∧ (Lit.int .i64 a6).wf = true ∧ (Lit.int .i64 a7).wf = true ∧ (Lit.int .i64 a8).wf = true := by
  have hv := hval
  unfold Value.okWide at hv
  rw [Try.underlying95] at hv
  obtain ⟨cs, rfl, _, _⟩ := hv
  obtain ⟨fuel, hf⟩ := hd
  obtain ⟨a0, a1, a2, a3, a4, a5, a6, a7, a8, hc, hw⟩ := opened_95 hf
  refine ⟨a0, a1, a2, a3, a4, a5, a6, a7, a8, ?_, hw⟩
  have : cs = #[.int .i64 a0, .int .i64 a1, .int .i64 a2, .int .i64 a3, .int .i64 a4, .int .i64 a5, .int .i64 a6, .int .i64 a7, .int .i64 a8] := by
    apply Array.toList_inj.1
    exact hc
  rw [this]
theorem opens_msgs : Opens 22 (Kd.slice 29 k29) (fun xs => ∀ x ∈ xs, WF29 x) := opens_slice Try.underlying22 (by kernel_rfl) opens_29
theorem opens_parts : Opens 45 (Kd.slice 49 k49) (fun xs => ∀ x ∈ xs, WF49 x) := opens_slice Try.underlying45 (by kernel_rfl) opens_49
theorem opens_steps : Opens 54 (Kd.slice 91 k91) (fun xs => ∀ x ∈ xs, WF91 x) := opens_slice Try.underlying54 (by kernel_rfl) opens_91
theorem opens_rows : Opens 62 (Kd.slice 30 (Kd.slice 5 (Kd.int .u8))) (fun xs => ∀ x ∈ xs, ∀ y ∈ x, (Lit.int .u8 y).wf = true) := opens_slice Try.underlying62 (by kernel_rfl) opens_bytes
theorem opens_ints : Opens 61 (Kd.slice 3 (Kd.int .i64)) (fun xs => ∀ x ∈ xs, (Lit.int .i64 x).wf = true) := opens_slice Try.underlying61 (by kernel_rfl) (opens_int Try.underlying3)
-- A slice that is handed in.
set_option maxRecDepth 100000 in
theorem open_arg_slice {α : Type} {t e e' : TypeId} {K : Kd α} {R : α → Prop} (ht : Try.prog.underlying t = some (.slice e)) (ho : Opens t (Kd.slice e' K) (fun xs => ∀ x ∈ xs, R x))
    {H : Type} {enc : TypeId × Value → H} {w : World} {r : Reach} {b0 : Nat} {v : Value} {d : DataW H} {ps : List MemPlace} (hval : Value.okWide Try.prog w r b0 t v) (hd : DataW.Trod enc Try.prog w 0 (fun _ => true) true t v d ps) :
    ∃ (A : Option Addr) (c : Nat) (xs : List α), v = .slice A xs.length c ∧ xs.length ≤ c ∧ K.C w A xs.length xs ∧ (∀ x ∈ xs, R x) ∧ ∀ y ∈ ps, y.block < w.heap.size := by
  obtain ⟨A, l, c, rfl⟩ := okWide_slice ht hval
  have hlt : ∀ y ∈ ps, y.block < w.heap.size := by obtain ⟨m, hm⟩ := hd; exact DataW.trod_lt m _ _ _ hm
  obtain ⟨fuel, hf⟩ := hd
  obtain ⟨xs, ⟨A', c', hc, hl, hC⟩, hr⟩ := ho hf
  simp [Value.cells] at hc
  obtain ⟨rfl, rfl, rfl⟩ := hc
  exact ⟨_, _, xs, rfl, hl, hC, hr, hlt⟩
end Go.Proofs.Ytalpemoodollpaa.P
-- Printed by hookprint.py (the session's own program, over the kit's print.py): checked by Lean like any text.
namespace Go.Proofs.Ytalpemoodollpaa.P
open Go.RowKit Go.Proofs.YtalpemoodollpaaW.PrintWords Go.Proofs.YtalpemoodollpaaW.PrintLast Go.Proofs.YtalpemoodollpaaW.PrintMore
attribute [local go_sem] max2_int min2_int max_two min_two max_three min_three max_four min_four   -- for this text's walks alone
set_option linter.unusedVariables false
set_option linter.unusedSimpArgs false

/-! ### damperlaw03_form: function 41 -/
def damperlaw03_form.f (k : Nat) (a0_0 : Int) (a0_1 : Int) (a0_2 : Int) (a0_3 : Int) (l0_4 : List Int) : Option (List Int) := if a0_0 = 1 then ((damperref03_Uint.f k a0_2 a0_1).bind fun t237 => (some t237)) else (if a0_0 = 2 then ((damperref03_Int.f k a0_3).bind fun t240 => (some t240)) else (if a0_0 = 3 then ((damperref03_Num.f k a0_2).bind fun t243 => (some t243)) else (if a0_0 = 4 then (some l0_4) else (some ([] : List Int)))))
theorem damperlaw03_form.mono : ∀ a0 a1 a2 a3 a4 k, LeO (damperlaw03_form.f k a0 a1 a2 a3 a4) (damperlaw03_form.f (k + 1) a0 a1 a2 a3 a4) := by
  intro a0 a1 a2 a3 a4 k
  unfold damperlaw03_form.f
  repeat' first
      | (with_reducible exact damperref03_Int.mono _ _)
      | (with_reducible exact damperref03_Num.mono _ _)
      | (with_reducible exact damperref03_Uint.mono _ _ _)
      | (with_reducible exact LeO.refl _)
      | (with_reducible exact LeO.none _)
      | (with_reducible refine LeO.ite ?_ ?_)
      | (with_reducible refine LeO.bind ?_ (fun _ => ?_))
      | exact damperref03_Int.mono _ _
      | exact damperref03_Num.mono _ _
      | exact damperref03_Uint.mono _ _ _
      | exact LeO.none _
      | refine LeO.ite ?_ ?_
      | refine LeO.bind ?_ (fun _ => ?_)
set_option maxHeartbeats 8000000 in
set_option maxRecDepth 100000 in
theorem damperlaw03_form.calls (k : Nat) (a0_0 : Int) (a0_1 : Int) (a0_2 : Int) (a0_3 : Int) (P0_4_ : Nat → Prop) (u9000_ : Value) (l0_4 : List Int) (r : List Int) (w0 w : World) (hB : Below w0.heap.size w0 w) (ho0_4 : Kd.R (Kd.int .u8) 5 w w0.heap.size P0_4_ u9000_ l0_4) (h : damperlaw03_form.f k a0_0 a0_1 a0_2 a0_3 l0_4 = some r) :
    Calls Try.prog 41 #[.agg #[.int .i64 a0_0, .int .i64 a0_1, .int .u64 a0_2, .int .i64 a0_3, u9000_]] w fun e w' => ∃ v0_ : Value, e = .returned (v0_) ∧ Kd.R (Kd.int .u8) 5 w' w0.heap.size (fun k_ => (P0_4_ k_ ∨ w.heap.size ≤ k_)) v0_ r ∧ Below w0.heap.size w0 w' ∧ Kept w w' (fun k_ => P0_4_ k_) := by
  have hu49 := Try.underlying49
  have HO0_4 := Aside0.mk (show Kd.R (Kd.int .u8) 5 w w0.heap.size (fun k_ => (P0_4_ k_ ∨ w.heap.size ≤ k_)) u9000_ l0_4 from Kd.R_mono ho0_4 (fun k_ hk => (.inl hk)))
  have HK := Aside0.mk (Kept.refl w (fun k_ => P0_4_ k_))
  have HW0 := Aside0.mk hB.size
  have HB := Aside0.mk hB
  clear hB
  have H : (if a0_0 = 1 then ((damperref03_Uint.f k a0_2 a0_1).bind fun t237 => (some t237)) else (if a0_0 = 2 then ((damperref03_Int.f k a0_3).bind fun t240 => (some t240)) else (if a0_0 = 3 then ((damperref03_Num.f k a0_2).bind fun t243 => (some t243)) else (if a0_0 = 4 then (some l0_4) else (some ([] : List Int)))))) = some r := h
  clear h
  by_cases c2 : a0_0 = 1
  · rw [if_pos c2] at H
    have c2b0 : (a0_0 == 1) = true := beq_iff_eq.mpr c2
    have c2b1 : (a0_0 != 1) = false := bne_eq_false_iff_eq.mpr c2
    clear c2
    replace H := Option.bind_eq_some_iff.mp H
    obtain ⟨t237, A30, H⟩ := H
    replace H : (some t237) = some r := H
    have A3 := Aside0.mk A30
    clear A30
    obtain rfl := Option.some.inj H
    obtain ⟨Ao4, co4, eo4⟩ := Kd.R_slice HO0_4.out
    subst eo4
    go_enter Try.func41, Try.ntmps41
    go_wp2_with (first | ((with_reducible refine gate_dst (N := 1) rfl ?_); refine box_event ?hg (N := 1) ?hd (cs := #[.int .i64 a0_0, .int .i64 a0_1, .int .u64 a0_2, .int .i64 a0_3, .slice Ao4 l0_4.length co4]) (t := 49) ?hr ?_; (case hd => rfl); (case hg => rfl); (case hr => first | (go_simp; done) | (go_simp; rfl)); intro gb236 hg w5 hbox hb; have n0_ := Aside0.mk (Kd.R_below (by (with_reducible repeat (first | apply Kd.R_alloc | apply Kd.R_drewN | apply Kd.R_drew)); exact HO0_4.out) hb); have n1_ := Aside0.mk (Kept.below (S := (fun k_ => P0_4_ k_)) (by repeat (first | (with_reducible first | exact HK.out | apply Kept.alloc | apply Kept.drewN | apply Kept.drew) | exact HK.out)) hb); have n2_ := Aside0.mk (below_step (by repeat (first | (with_reducible first | exact HB.out | apply below_alloc | apply pw_below_drewN | apply below_drew1) | exact HB.out)) hb); have n3_ := Aside0.mk (hbox); have n4_ := Aside0.mk ((by rw [hg]; exact (by first | exact HK.out.1 | exact (show Kept w _ (fun k_ => P0_4_ k_) from by repeat (first | (with_reducible first | exact HK.out | apply Kept.alloc | apply Kept.drewN | apply Kept.drew) | exact HK.out)).1) : w.heap.size ≤ gb236)); have n5_ := Aside0.mk ((by rw [hg]; exact (below_size (by repeat (first | (with_reducible first | exact HB.out | apply below_alloc | apply pw_below_drewN | apply below_drew1) | exact HB.out))) : w0.heap.size ≤ gb236)); clear HO0_4; clear HK; clear HB; have HO0_4 := n0_; have HK := n1_; have HB := n2_; have BK236 := n3_; have GW236 := n4_; have GE236 := n5_; clear n0_ n1_ n2_ n3_ n4_ n5_; clear hb hbox hg; have hcz6_0 : w5.cell? ⟨gb236, 0, none⟩ = some (.int .i64 a0_0) := (blk_cell BK236.out 0).trans rfl; have hcz6_1 : w5.cell? ⟨gb236, 1, none⟩ = some (.int .i64 a0_1) := (blk_cell BK236.out 1).trans rfl; have hcz6_2 : w5.cell? ⟨gb236, 2, none⟩ = some (.int .u64 a0_2) := (blk_cell BK236.out 2).trans rfl; have hcz6_3 : w5.cell? ⟨gb236, 3, none⟩ = some (.int .i64 a0_3) := (blk_cell BK236.out 3).trans rfl; have hcz6_4 : w5.cell? ⟨gb236, 4, none⟩ = some (.slice Ao4 l0_4.length co4) := (blk_cell BK236.out 4).trans rfl; have hfz6_0 := blk_frozen BK236.out 0; have hfz6_1 := blk_frozen BK236.out 1; have hfz6_2 := blk_frozen BK236.out 2; have hfz6_3 := blk_frozen BK236.out 3; have hfz6_4 := blk_frozen BK236.out 4) | ((with_reducible refine gate_callee (f := 101) rfl ?_); refine goesL_ (some 11) rfl rfl Try.func101 (by kernel_rfl) rfl #[.int .u64 a0_2, .int .i64 a0_1] rfl (by (try simp only [List.map_toArray, List.map_cons, List.map_nil]); first | done | rfl | (simp only [List.length_drop, List.length_take]; rfl)) ?_; (with_reducible refine (damperref03_Uint.calls k a0_2 a0_1 t237 _ A3.out).mono ?_); rintro e w7 ⟨v238, rfl, ho0, hb⟩; refine ⟨_, rfl, ?_⟩; have n0_ := Aside0.mk (Kd.R_elder' (by (with_reducible repeat (first | apply Kd.R_alloc | apply Kd.R_drewN | apply Kd.R_drew)); exact HO0_4.out) (Kd.R_base ho0) hb); have n1_ := Aside0.mk (Kd.R_lower (Kd.R_new' (Kd.R_newM (M := fun k_ => (P0_4_ k_ ∨ w.heap.size ≤ k_)) ho0 (by first | exact HK.out.1 | exact (show Kept w _ (fun k_ => P0_4_ k_) from by repeat (first | (with_reducible first | exact HK.out | apply Kept.alloc | apply Kept.drewN | apply Kept.drew | refine Kept.setCell ?_ (.inr GW236.out) _) | exact HK.out)).1) (fun k_ h_ => .inr h_)) (Kd.R_lt (by (with_reducible repeat (first | apply Kd.R_alloc | apply Kd.R_drewN | apply Kd.R_drew)); exact HO0_4.out))) (below_size (by repeat (first | (with_reducible first | exact HB.out | apply below_alloc | apply pw_below_drewN | apply below_drew1 | refine below_set ?_ GE236.out) | exact HB.out)))); have n2_ := Aside0.mk (blk_below (g := gb236) (o := .cells #[.int .i64 a0_0, .int .i64 a0_1, .int .u64 a0_2, .int .i64 a0_3, .slice Ao4 l0_4.length co4] 49 (0, 0)) (by (with_reducible repeat (first | refine blk_drewN ?_ _ | refine blk_drew ?_ | refine blk_alloc ?_ _)); exact BK236.out) hb); have n3_ := Aside0.mk (Kept.below (S := (fun k_ => P0_4_ k_)) (by repeat (first | (with_reducible first | exact HK.out | apply Kept.alloc | apply Kept.drewN | apply Kept.drew | refine Kept.setCell ?_ (.inr GW236.out) _) | exact HK.out)) hb); have n4_ := Aside0.mk (below_step (by repeat (first | (with_reducible first | exact HB.out | apply below_alloc | apply pw_below_drewN | apply below_drew1 | refine below_set ?_ GE236.out) | exact HB.out)) hb); clear HO0_4; clear BK236; clear HK; clear HB; have HO0_4 := n0_; have HO239 := n1_; have BK236 := n2_; have HK := n3_; have HB := n4_; clear n0_ n1_ n2_ n3_ n4_; (try clear hb); (try clear hb2); (try clear hk); (try clear hi); (try clear ho0)))
    go_ret
    exact ⟨_, by first | rfl | (simp [errW_none, errW_some] <;> rfl) | (simp [*, errW_none, errW_some] <;> rfl), by (with_reducible repeat (first | apply Kd.R_alloc | apply Kd.R_drewN | apply Kd.R_drew)); exact Kd.R_mono HO239.out (fun _ hk => hk.1.1), by repeat (first | (with_reducible first | exact HB.out | apply below_alloc | apply pw_below_drewN | apply below_drew1 | refine below_set ?_ GE236.out) | exact HB.out), by repeat (first | (with_reducible first | exact HK.out | apply Kept.alloc | apply Kept.drewN | apply Kept.drew | refine Kept.setCell ?_ (.inr GW236.out) _) | exact HK.out)⟩
  · rw [if_neg c2] at H
    have c2b0 : (a0_0 == 1) = false := beq_eq_false_iff_ne.mpr c2
    have c2b1 : (a0_0 != 1) = true := bne_iff_ne.mpr c2
    by_cases c8 : a0_0 = 2
    · rw [if_pos c8] at H
      have c8b0 : (a0_0 == 2) = true := beq_iff_eq.mpr c8
      have c8b1 : (a0_0 != 2) = false := bne_eq_false_iff_eq.mpr c8
      clear c8
      replace H := Option.bind_eq_some_iff.mp H
      obtain ⟨t240, A90, H⟩ := H
      replace H : (some t240) = some r := H
      have A9 := Aside0.mk A90
      clear A90
      obtain rfl := Option.some.inj H
      obtain ⟨Ao10, co10, eo10⟩ := Kd.R_slice HO0_4.out
      subst eo10
      go_enter Try.func41, Try.ntmps41
      go_wp2_with (first | ((with_reducible refine gate_dst (N := 1) rfl ?_); refine box_event ?hg (N := 1) ?hd (cs := #[.int .i64 a0_0, .int .i64 a0_1, .int .u64 a0_2, .int .i64 a0_3, .slice Ao10 l0_4.length co10]) (t := 49) ?hr ?_; (case hd => rfl); (case hg => rfl); (case hr => first | (go_simp; done) | (go_simp; rfl)); intro gb236 hg w11 hbox hb; have n0_ := Aside0.mk (Kd.R_below (by (with_reducible repeat (first | apply Kd.R_alloc | apply Kd.R_drewN | apply Kd.R_drew)); exact HO0_4.out) hb); have n1_ := Aside0.mk (Kept.below (S := (fun k_ => P0_4_ k_)) (by repeat (first | (with_reducible first | exact HK.out | apply Kept.alloc | apply Kept.drewN | apply Kept.drew) | exact HK.out)) hb); have n2_ := Aside0.mk (below_step (by repeat (first | (with_reducible first | exact HB.out | apply below_alloc | apply pw_below_drewN | apply below_drew1) | exact HB.out)) hb); have n3_ := Aside0.mk (hbox); have n4_ := Aside0.mk ((by rw [hg]; exact (by first | exact HK.out.1 | exact (show Kept w _ (fun k_ => P0_4_ k_) from by repeat (first | (with_reducible first | exact HK.out | apply Kept.alloc | apply Kept.drewN | apply Kept.drew) | exact HK.out)).1) : w.heap.size ≤ gb236)); have n5_ := Aside0.mk ((by rw [hg]; exact (below_size (by repeat (first | (with_reducible first | exact HB.out | apply below_alloc | apply pw_below_drewN | apply below_drew1) | exact HB.out))) : w0.heap.size ≤ gb236)); clear HO0_4; clear HK; clear HB; have HO0_4 := n0_; have HK := n1_; have HB := n2_; have BK236 := n3_; have GW236 := n4_; have GE236 := n5_; clear n0_ n1_ n2_ n3_ n4_ n5_; clear hb hbox hg; have hcz12_0 : w11.cell? ⟨gb236, 0, none⟩ = some (.int .i64 a0_0) := (blk_cell BK236.out 0).trans rfl; have hcz12_1 : w11.cell? ⟨gb236, 1, none⟩ = some (.int .i64 a0_1) := (blk_cell BK236.out 1).trans rfl; have hcz12_2 : w11.cell? ⟨gb236, 2, none⟩ = some (.int .u64 a0_2) := (blk_cell BK236.out 2).trans rfl; have hcz12_3 : w11.cell? ⟨gb236, 3, none⟩ = some (.int .i64 a0_3) := (blk_cell BK236.out 3).trans rfl; have hcz12_4 : w11.cell? ⟨gb236, 4, none⟩ = some (.slice Ao10 l0_4.length co10) := (blk_cell BK236.out 4).trans rfl; have hfz12_0 := blk_frozen BK236.out 0; have hfz12_1 := blk_frozen BK236.out 1; have hfz12_2 := blk_frozen BK236.out 2; have hfz12_3 := blk_frozen BK236.out 3; have hfz12_4 := blk_frozen BK236.out 4) | ((with_reducible refine gate_callee (f := 102) rfl ?_); refine goesL_ (some 16) rfl rfl Try.func102 (by kernel_rfl) rfl #[.int .i64 a0_3] rfl (by (try simp only [List.map_toArray, List.map_cons, List.map_nil]); first | done | rfl | (simp only [List.length_drop, List.length_take]; rfl)) ?_; (with_reducible refine (damperref03_Int.calls k a0_3 t240 _ A9.out).mono ?_); rintro e w13 ⟨v241, rfl, ho0, hb⟩; refine ⟨_, rfl, ?_⟩; have n0_ := Aside0.mk (Kd.R_elder' (by (with_reducible repeat (first | apply Kd.R_alloc | apply Kd.R_drewN | apply Kd.R_drew)); exact HO0_4.out) (Kd.R_base ho0) hb); have n1_ := Aside0.mk (Kd.R_lower (Kd.R_new' (Kd.R_newM (M := fun k_ => (P0_4_ k_ ∨ w.heap.size ≤ k_)) ho0 (by first | exact HK.out.1 | exact (show Kept w _ (fun k_ => P0_4_ k_) from by repeat (first | (with_reducible first | exact HK.out | apply Kept.alloc | apply Kept.drewN | apply Kept.drew | refine Kept.setCell ?_ (.inr GW236.out) _) | exact HK.out)).1) (fun k_ h_ => .inr h_)) (Kd.R_lt (by (with_reducible repeat (first | apply Kd.R_alloc | apply Kd.R_drewN | apply Kd.R_drew)); exact HO0_4.out))) (below_size (by repeat (first | (with_reducible first | exact HB.out | apply below_alloc | apply pw_below_drewN | apply below_drew1 | refine below_set ?_ GE236.out) | exact HB.out)))); have n2_ := Aside0.mk (blk_below (g := gb236) (o := .cells #[.int .i64 a0_0, .int .i64 a0_1, .int .u64 a0_2, .int .i64 a0_3, .slice Ao10 l0_4.length co10] 49 (0, 0)) (by (with_reducible repeat (first | refine blk_drewN ?_ _ | refine blk_drew ?_ | refine blk_alloc ?_ _)); exact BK236.out) hb); have n3_ := Aside0.mk (Kept.below (S := (fun k_ => P0_4_ k_)) (by repeat (first | (with_reducible first | exact HK.out | apply Kept.alloc | apply Kept.drewN | apply Kept.drew | refine Kept.setCell ?_ (.inr GW236.out) _) | exact HK.out)) hb); have n4_ := Aside0.mk (below_step (by repeat (first | (with_reducible first | exact HB.out | apply below_alloc | apply pw_below_drewN | apply below_drew1 | refine below_set ?_ GE236.out) | exact HB.out)) hb); clear HO0_4; clear BK236; clear HK; clear HB; have HO0_4 := n0_; have HO242 := n1_; have BK236 := n2_; have HK := n3_; have HB := n4_; clear n0_ n1_ n2_ n3_ n4_; (try clear hb); (try clear hb2); (try clear hk); (try clear hi); (try clear ho0)))
      go_ret
      exact ⟨_, by first | rfl | (simp [errW_none, errW_some] <;> rfl) | (simp [*, errW_none, errW_some] <;> rfl), by (with_reducible repeat (first | apply Kd.R_alloc | apply Kd.R_drewN | apply Kd.R_drew)); exact Kd.R_mono HO242.out (fun _ hk => hk.1.1), by repeat (first | (with_reducible first | exact HB.out | apply below_alloc | apply pw_below_drewN | apply below_drew1 | refine below_set ?_ GE236.out) | exact HB.out), by repeat (first | (with_reducible first | exact HK.out | apply Kept.alloc | apply Kept.drewN | apply Kept.drew | refine Kept.setCell ?_ (.inr GW236.out) _) | exact HK.out)⟩
    · rw [if_neg c8] at H
      have c8b0 : (a0_0 == 2) = false := beq_eq_false_iff_ne.mpr c8
      have c8b1 : (a0_0 != 2) = true := bne_iff_ne.mpr c8
      by_cases c14 : a0_0 = 3
      · rw [if_pos c14] at H
        have c14b0 : (a0_0 == 3) = true := beq_iff_eq.mpr c14
        have c14b1 : (a0_0 != 3) = false := bne_eq_false_iff_eq.mpr c14
        clear c14
        replace H := Option.bind_eq_some_iff.mp H
        obtain ⟨t243, A150, H⟩ := H
        replace H : (some t243) = some r := H
        have A15 := Aside0.mk A150
        clear A150
        obtain rfl := Option.some.inj H
        obtain ⟨Ao16, co16, eo16⟩ := Kd.R_slice HO0_4.out
        subst eo16
        go_enter Try.func41, Try.ntmps41
        go_wp2_with (first | ((with_reducible refine gate_dst (N := 1) rfl ?_); refine box_event ?hg (N := 1) ?hd (cs := #[.int .i64 a0_0, .int .i64 a0_1, .int .u64 a0_2, .int .i64 a0_3, .slice Ao16 l0_4.length co16]) (t := 49) ?hr ?_; (case hd => rfl); (case hg => rfl); (case hr => first | (go_simp; done) | (go_simp; rfl)); intro gb236 hg w17 hbox hb; have n0_ := Aside0.mk (Kd.R_below (by (with_reducible repeat (first | apply Kd.R_alloc | apply Kd.R_drewN | apply Kd.R_drew)); exact HO0_4.out) hb); have n1_ := Aside0.mk (Kept.below (S := (fun k_ => P0_4_ k_)) (by repeat (first | (with_reducible first | exact HK.out | apply Kept.alloc | apply Kept.drewN | apply Kept.drew) | exact HK.out)) hb); have n2_ := Aside0.mk (below_step (by repeat (first | (with_reducible first | exact HB.out | apply below_alloc | apply pw_below_drewN | apply below_drew1) | exact HB.out)) hb); have n3_ := Aside0.mk (hbox); have n4_ := Aside0.mk ((by rw [hg]; exact (by first | exact HK.out.1 | exact (show Kept w _ (fun k_ => P0_4_ k_) from by repeat (first | (with_reducible first | exact HK.out | apply Kept.alloc | apply Kept.drewN | apply Kept.drew) | exact HK.out)).1) : w.heap.size ≤ gb236)); have n5_ := Aside0.mk ((by rw [hg]; exact (below_size (by repeat (first | (with_reducible first | exact HB.out | apply below_alloc | apply pw_below_drewN | apply below_drew1) | exact HB.out))) : w0.heap.size ≤ gb236)); clear HO0_4; clear HK; clear HB; have HO0_4 := n0_; have HK := n1_; have HB := n2_; have BK236 := n3_; have GW236 := n4_; have GE236 := n5_; clear n0_ n1_ n2_ n3_ n4_ n5_; clear hb hbox hg; have hcz18_0 : w17.cell? ⟨gb236, 0, none⟩ = some (.int .i64 a0_0) := (blk_cell BK236.out 0).trans rfl; have hcz18_1 : w17.cell? ⟨gb236, 1, none⟩ = some (.int .i64 a0_1) := (blk_cell BK236.out 1).trans rfl; have hcz18_2 : w17.cell? ⟨gb236, 2, none⟩ = some (.int .u64 a0_2) := (blk_cell BK236.out 2).trans rfl; have hcz18_3 : w17.cell? ⟨gb236, 3, none⟩ = some (.int .i64 a0_3) := (blk_cell BK236.out 3).trans rfl; have hcz18_4 : w17.cell? ⟨gb236, 4, none⟩ = some (.slice Ao16 l0_4.length co16) := (blk_cell BK236.out 4).trans rfl; have hfz18_0 := blk_frozen BK236.out 0; have hfz18_1 := blk_frozen BK236.out 1; have hfz18_2 := blk_frozen BK236.out 2; have hfz18_3 := blk_frozen BK236.out 3; have hfz18_4 := blk_frozen BK236.out 4) | ((with_reducible refine gate_callee (f := 103) rfl ?_); refine goesL_ (some 21) rfl rfl Try.func103 (by kernel_rfl) rfl #[.int .u64 a0_2] rfl (by (try simp only [List.map_toArray, List.map_cons, List.map_nil]); first | done | rfl | (simp only [List.length_drop, List.length_take]; rfl)) ?_; (with_reducible refine (damperref03_Num.calls k a0_2 t243 _ A15.out).mono ?_); rintro e w19 ⟨v244, rfl, ho0, hb⟩; refine ⟨_, rfl, ?_⟩; have n0_ := Aside0.mk (Kd.R_elder' (by (with_reducible repeat (first | apply Kd.R_alloc | apply Kd.R_drewN | apply Kd.R_drew)); exact HO0_4.out) (Kd.R_base ho0) hb); have n1_ := Aside0.mk (Kd.R_lower (Kd.R_new' (Kd.R_newM (M := fun k_ => (P0_4_ k_ ∨ w.heap.size ≤ k_)) ho0 (by first | exact HK.out.1 | exact (show Kept w _ (fun k_ => P0_4_ k_) from by repeat (first | (with_reducible first | exact HK.out | apply Kept.alloc | apply Kept.drewN | apply Kept.drew | refine Kept.setCell ?_ (.inr GW236.out) _) | exact HK.out)).1) (fun k_ h_ => .inr h_)) (Kd.R_lt (by (with_reducible repeat (first | apply Kd.R_alloc | apply Kd.R_drewN | apply Kd.R_drew)); exact HO0_4.out))) (below_size (by repeat (first | (with_reducible first | exact HB.out | apply below_alloc | apply pw_below_drewN | apply below_drew1 | refine below_set ?_ GE236.out) | exact HB.out)))); have n2_ := Aside0.mk (blk_below (g := gb236) (o := .cells #[.int .i64 a0_0, .int .i64 a0_1, .int .u64 a0_2, .int .i64 a0_3, .slice Ao16 l0_4.length co16] 49 (0, 0)) (by (with_reducible repeat (first | refine blk_drewN ?_ _ | refine blk_drew ?_ | refine blk_alloc ?_ _)); exact BK236.out) hb); have n3_ := Aside0.mk (Kept.below (S := (fun k_ => P0_4_ k_)) (by repeat (first | (with_reducible first | exact HK.out | apply Kept.alloc | apply Kept.drewN | apply Kept.drew | refine Kept.setCell ?_ (.inr GW236.out) _) | exact HK.out)) hb); have n4_ := Aside0.mk (below_step (by repeat (first | (with_reducible first | exact HB.out | apply below_alloc | apply pw_below_drewN | apply below_drew1 | refine below_set ?_ GE236.out) | exact HB.out)) hb); clear HO0_4; clear BK236; clear HK; clear HB; have HO0_4 := n0_; have HO245 := n1_; have BK236 := n2_; have HK := n3_; have HB := n4_; clear n0_ n1_ n2_ n3_ n4_; (try clear hb); (try clear hb2); (try clear hk); (try clear hi); (try clear ho0)))
        go_ret
        exact ⟨_, by first | rfl | (simp [errW_none, errW_some] <;> rfl) | (simp [*, errW_none, errW_some] <;> rfl), by (with_reducible repeat (first | apply Kd.R_alloc | apply Kd.R_drewN | apply Kd.R_drew)); exact Kd.R_mono HO245.out (fun _ hk => hk.1.1), by repeat (first | (with_reducible first | exact HB.out | apply below_alloc | apply pw_below_drewN | apply below_drew1 | refine below_set ?_ GE236.out) | exact HB.out), by repeat (first | (with_reducible first | exact HK.out | apply Kept.alloc | apply Kept.drewN | apply Kept.drew | refine Kept.setCell ?_ (.inr GW236.out) _) | exact HK.out)⟩
      · rw [if_neg c14] at H
        have c14b0 : (a0_0 == 3) = false := beq_eq_false_iff_ne.mpr c14
        have c14b1 : (a0_0 != 3) = true := bne_iff_ne.mpr c14
        by_cases c20 : a0_0 = 4
        · rw [if_pos c20] at H
          have c20b0 : (a0_0 == 4) = true := beq_iff_eq.mpr c20
          have c20b1 : (a0_0 != 4) = false := bne_eq_false_iff_eq.mpr c20
          clear c20
          obtain rfl := Option.some.inj H
          obtain ⟨Ao21, co21, eo21⟩ := Kd.R_slice HO0_4.out
          subst eo21
          go_enter Try.func41, Try.ntmps41
          go_wp2_with (first | ((with_reducible refine gate_dst (N := 1) rfl ?_); refine box_event ?hg (N := 1) ?hd (cs := #[.int .i64 a0_0, .int .i64 a0_1, .int .u64 a0_2, .int .i64 a0_3, .slice Ao21 l0_4.length co21]) (t := 49) ?hr ?_; (case hd => rfl); (case hg => rfl); (case hr => first | (go_simp; done) | (go_simp; rfl)); intro gb236 hg w22 hbox hb; have n0_ := Aside0.mk (Kd.R_below (by (with_reducible repeat (first | apply Kd.R_alloc | apply Kd.R_drewN | apply Kd.R_drew)); exact HO0_4.out) hb); have n1_ := Aside0.mk (Kept.below (S := (fun k_ => P0_4_ k_)) (by repeat (first | (with_reducible first | exact HK.out | apply Kept.alloc | apply Kept.drewN | apply Kept.drew) | exact HK.out)) hb); have n2_ := Aside0.mk (below_step (by repeat (first | (with_reducible first | exact HB.out | apply below_alloc | apply pw_below_drewN | apply below_drew1) | exact HB.out)) hb); have n3_ := Aside0.mk (hbox); have n4_ := Aside0.mk ((by rw [hg]; exact (by first | exact HK.out.1 | exact (show Kept w _ (fun k_ => P0_4_ k_) from by repeat (first | (with_reducible first | exact HK.out | apply Kept.alloc | apply Kept.drewN | apply Kept.drew) | exact HK.out)).1) : w.heap.size ≤ gb236)); have n5_ := Aside0.mk ((by rw [hg]; exact (below_size (by repeat (first | (with_reducible first | exact HB.out | apply below_alloc | apply pw_below_drewN | apply below_drew1) | exact HB.out))) : w0.heap.size ≤ gb236)); clear HO0_4; clear HK; clear HB; have HO0_4 := n0_; have HK := n1_; have HB := n2_; have BK236 := n3_; have GW236 := n4_; have GE236 := n5_; clear n0_ n1_ n2_ n3_ n4_ n5_; clear hb hbox hg; have hcz23_0 : w22.cell? ⟨gb236, 0, none⟩ = some (.int .i64 a0_0) := (blk_cell BK236.out 0).trans rfl; have hcz23_1 : w22.cell? ⟨gb236, 1, none⟩ = some (.int .i64 a0_1) := (blk_cell BK236.out 1).trans rfl; have hcz23_2 : w22.cell? ⟨gb236, 2, none⟩ = some (.int .u64 a0_2) := (blk_cell BK236.out 2).trans rfl; have hcz23_3 : w22.cell? ⟨gb236, 3, none⟩ = some (.int .i64 a0_3) := (blk_cell BK236.out 3).trans rfl; have hcz23_4 : w22.cell? ⟨gb236, 4, none⟩ = some (.slice Ao21 l0_4.length co21) := (blk_cell BK236.out 4).trans rfl; have hfz23_0 := blk_frozen BK236.out 0; have hfz23_1 := blk_frozen BK236.out 1; have hfz23_2 := blk_frozen BK236.out 2; have hfz23_3 := blk_frozen BK236.out 3; have hfz23_4 := blk_frozen BK236.out 4))
          go_ret
          exact ⟨_, by first | rfl | (simp [errW_none, errW_some] <;> rfl) | (simp [*, errW_none, errW_some] <;> rfl), by (with_reducible repeat (first | apply Kd.R_alloc | apply Kd.R_drewN | apply Kd.R_drew)); exact HO0_4.out, by repeat (first | (with_reducible first | exact HB.out | apply below_alloc | apply pw_below_drewN | apply below_drew1 | refine below_set ?_ GE236.out) | exact HB.out), by repeat (first | (with_reducible first | exact HK.out | apply Kept.alloc | apply Kept.drewN | apply Kept.drew | refine Kept.setCell ?_ (.inr GW236.out) _) | exact HK.out)⟩
        · rw [if_neg c20] at H
          have c20b0 : (a0_0 == 4) = false := beq_eq_false_iff_ne.mpr c20
          have c20b1 : (a0_0 != 4) = true := bne_iff_ne.mpr c20
          obtain rfl := Option.some.inj H
          obtain ⟨Ao24, co24, eo24⟩ := Kd.R_slice HO0_4.out
          subst eo24
          go_enter Try.func41, Try.ntmps41
          go_wp2_with (first | ((with_reducible refine gate_dst (N := 1) rfl ?_); refine box_event ?hg (N := 1) ?hd (cs := #[.int .i64 a0_0, .int .i64 a0_1, .int .u64 a0_2, .int .i64 a0_3, .slice Ao24 l0_4.length co24]) (t := 49) ?hr ?_; (case hd => rfl); (case hg => rfl); (case hr => first | (go_simp; done) | (go_simp; rfl)); intro gb236 hg w25 hbox hb; have n0_ := Aside0.mk (Kd.R_below (by (with_reducible repeat (first | apply Kd.R_alloc | apply Kd.R_drewN | apply Kd.R_drew)); exact HO0_4.out) hb); have n1_ := Aside0.mk (Kept.below (S := (fun k_ => P0_4_ k_)) (by repeat (first | (with_reducible first | exact HK.out | apply Kept.alloc | apply Kept.drewN | apply Kept.drew) | exact HK.out)) hb); have n2_ := Aside0.mk (below_step (by repeat (first | (with_reducible first | exact HB.out | apply below_alloc | apply pw_below_drewN | apply below_drew1) | exact HB.out)) hb); have n3_ := Aside0.mk (hbox); have n4_ := Aside0.mk ((by rw [hg]; exact (by first | exact HK.out.1 | exact (show Kept w _ (fun k_ => P0_4_ k_) from by repeat (first | (with_reducible first | exact HK.out | apply Kept.alloc | apply Kept.drewN | apply Kept.drew) | exact HK.out)).1) : w.heap.size ≤ gb236)); have n5_ := Aside0.mk ((by rw [hg]; exact (below_size (by repeat (first | (with_reducible first | exact HB.out | apply below_alloc | apply pw_below_drewN | apply below_drew1) | exact HB.out))) : w0.heap.size ≤ gb236)); clear HO0_4; clear HK; clear HB; have HO0_4 := n0_; have HK := n1_; have HB := n2_; have BK236 := n3_; have GW236 := n4_; have GE236 := n5_; clear n0_ n1_ n2_ n3_ n4_ n5_; clear hb hbox hg; have hcz26_0 : w25.cell? ⟨gb236, 0, none⟩ = some (.int .i64 a0_0) := (blk_cell BK236.out 0).trans rfl; have hcz26_1 : w25.cell? ⟨gb236, 1, none⟩ = some (.int .i64 a0_1) := (blk_cell BK236.out 1).trans rfl; have hcz26_2 : w25.cell? ⟨gb236, 2, none⟩ = some (.int .u64 a0_2) := (blk_cell BK236.out 2).trans rfl; have hcz26_3 : w25.cell? ⟨gb236, 3, none⟩ = some (.int .i64 a0_3) := (blk_cell BK236.out 3).trans rfl; have hcz26_4 : w25.cell? ⟨gb236, 4, none⟩ = some (.slice Ao24 l0_4.length co24) := (blk_cell BK236.out 4).trans rfl; have hfz26_0 := blk_frozen BK236.out 0; have hfz26_1 := blk_frozen BK236.out 1; have hfz26_2 := blk_frozen BK236.out 2; have hfz26_3 := blk_frozen BK236.out 3; have hfz26_4 := blk_frozen BK236.out 4))
          go_ret
          exact ⟨_, by first | rfl | (simp [errW_none, errW_some] <;> rfl) | (simp [*, errW_none, errW_some] <;> rfl), by first | exact Kd.R_nil _ _ _ _ _ | exact Kd.N_nil _ _ _ _ _ | exact Kd.V_nil _ _ _ _ _ | exact Kd.Q_nil _ _ _ _ _ | exact Kd.S_nil _ _ _ _ _, by repeat (first | (with_reducible first | exact HB.out | apply below_alloc | apply pw_below_drewN | apply below_drew1 | refine below_set ?_ GE236.out) | exact HB.out), by repeat (first | (with_reducible first | exact HK.out | apply Kept.alloc | apply Kept.drewN | apply Kept.drew | refine Kept.setCell ?_ (.inr GW236.out) _) | exact HK.out)⟩

end Go.Proofs.Ytalpemoodollpaa.P
/- damperlaw03's form and put. -/
namespace Go.Proofs.Ytalpemoodollpaa.P
open Go.RowKit Go.Proofs.YtalpemoodollpaaW.PrintWords Go.Proofs.YtalpemoodollpaaW.PrintLast Go.Proofs.YtalpemoodollpaaW.PrintMore
set_option linter.unusedVariables false
set_option linter.unusedSimpArgs false

/-- What the document says that a part puts. -/
def partForm (p : S49) : List Int :=
  if p.f0 = 1 then (if p.f1 < 1 ∨ 8 < p.f1 then [] else uintForm p.f2.toNat p.f1.toNat) else if p.f0 = 2 then intForm p.f3 else if p.f0 = 3 then numForm p.f2.toNat else if p.f0 = 4 then p.f4 else []
def partVal (p : S49) (A : Option Addr) (c : Nat) : Value := .agg #[.int .i64 p.f0, .int .i64 p.f1, .int .u64 p.f2, .int .i64 p.f3, .slice A p.f4.length c]
theorem WF49.n {p : S49} (h : WF49 p) : 0 ≤ p.f2 ∧ p.f2 < 18446744073709551616 := row.wf_u64 h.2.2.1
theorem WF49.s {p : S49} (h : WF49 p) : -9223372036854775808 ≤ p.f3 ∧ p.f3 ≤ 9223372036854775807 := row.wf_i64 h.2.2.2.1
set_option maxRecDepth 100000 in
set_option maxHeartbeats 2000000 in
theorem law03_form_calls (p : S49) (A : Option Addr) (c : Nat) (w : World) (hw : WF49 p) (hc : p.f4.length ≤ c) (hC : Kd.C (Kd.int .u8) w A p.f4.length p.f4) :
    Calls Try.prog 41 #[.agg #[.int .i64 p.f0, .int .i64 p.f1, .int .u64 p.f2, .int .i64 p.f3, .slice A p.f4.length c]] w fun e w' => ∃ B m, e = .returned (.slice B (partForm p).length m) ∧ (partForm p).length ≤ m ∧ Kd.C (Kd.int .u8) w' B (partForm p).length (partForm p) ∧ Below w.heap.size w w' := by
  obtain ⟨f0, f1, f2, f3, f4⟩ := p
  have hn := hw.n
  have hs := hw.s
  generalize hF : partForm ⟨f0, f1, f2, f3, f4⟩ = F
  unfold partForm at hF
  dsimp only at *
  have HC := Aside0.mk hC
  have HL := Aside0.mk hc
  clear hw hC hc
  by_cases h1 : f0 = 1
  · subst h1
    rw [if_pos rfl] at hF
    have hX : damperref03_Uint.f 12 f2 f1 = some F := by
      rw [← hF]
      by_cases h : f1 < 1 ∨ 8 < f1
      · rw [if_pos h, refUint_none f2 f1 h 12 (by omega)]
      · rw [if_neg h, refUint f2 f1 hn.1 hn.2 (by omega) (by omega) 12 (by omega)]
    have HX := Aside0.mk hX
    clear hX hF hn hs
    have HA := Aside0.mk (below_alloc (Below.refl w.heap.size w) (.cells #[.int .i64 1, .int .i64 f1, .int .u64 f2, .int .i64 f3, .slice A f4.length c] 49))
    go_enter Try.func41, Try.ntmps41
    go_wp2_with fail
    refine (damperref03_Uint.calls 12 f2 f1 F _ HX.out).mono ?_
    rintro e w1 ⟨v1, rfl, hR, hb⟩
    obtain ⟨X1, x1, rfl, hq, hC⟩ := Kd.R_reads hR
    have CX := Aside0.mk hC
    have QX := Aside0.mk hq
    have B1 := Aside0.mk (Below.trans HA.out (Below.mono hb HA.out.size))
    clear hR hb hC hq HA
    go_wp2
    go_ret
    exact ⟨X1, x1, rfl, QX.out, CX.out, B1.out⟩
  · by_cases h2 : f0 = 2
    · subst h2
      rw [if_neg h1, if_pos rfl] at hF
      have hX : damperref03_Int.f 12 f3 = some F := by
        rw [← hF, refInt f3 hs.1 hs.2 12 (by omega)]
      have HX := Aside0.mk hX
      clear hX hF hn hs h1
      have HA := Aside0.mk (below_alloc (Below.refl w.heap.size w) (.cells #[.int .i64 2, .int .i64 f1, .int .u64 f2, .int .i64 f3, .slice A f4.length c] 49))
      go_enter Try.func41, Try.ntmps41
      go_wp2_with fail
      refine (damperref03_Int.calls 12 f3 F _ HX.out).mono ?_
      rintro e w1 ⟨v1, rfl, hR, hb⟩
      obtain ⟨X1, x1, rfl, hq, hC⟩ := Kd.R_reads hR
      have CX := Aside0.mk hC
      have QX := Aside0.mk hq
      have B1 := Aside0.mk (Below.trans HA.out (Below.mono hb HA.out.size))
      clear hR hb hC hq HA
      go_wp2
      go_ret
      exact ⟨X1, x1, rfl, QX.out, CX.out, B1.out⟩
    · by_cases h3 : f0 = 3
      · subst h3
        rw [if_neg h1, if_neg h2, if_pos rfl] at hF
        have hX : damperref03_Num.f 12 f2 = some F := by
          rw [← hF, refNum f2 hn.1 hn.2 12 (by omega)]
        have HX := Aside0.mk hX
        clear hX hF hn hs h1 h2
        have HA := Aside0.mk (below_alloc (Below.refl w.heap.size w) (.cells #[.int .i64 3, .int .i64 f1, .int .u64 f2, .int .i64 f3, .slice A f4.length c] 49))
        go_enter Try.func41, Try.ntmps41
        go_wp2_with fail
        refine (damperref03_Num.calls 12 f2 F _ HX.out).mono ?_
        rintro e w1 ⟨v1, rfl, hR, hb⟩
        obtain ⟨X1, x1, rfl, hq, hC⟩ := Kd.R_reads hR
        have CX := Aside0.mk hC
        have QX := Aside0.mk hq
        have B1 := Aside0.mk (Below.trans HA.out (Below.mono hb HA.out.size))
        clear hR hb hC hq HA
        go_wp2
        go_ret
        exact ⟨X1, x1, rfl, QX.out, CX.out, B1.out⟩
      · by_cases h4 : f0 = 4
        · subst h4
          rw [if_neg h1, if_neg h2, if_neg h3, if_pos rfl] at hF
          subst hF
          clear hn hs h1 h2 h3
          have HA := Aside0.mk (below_alloc (Below.refl w.heap.size w) (.cells #[.int .i64 4, .int .i64 f1, .int .u64 f2, .int .i64 f3, .slice A f4.length c] 49))
          have HC2 := Aside0.mk (Kd.C_alloc HC.out (.cells #[.int .i64 4, .int .i64 f1, .int .u64 f2, .int .i64 f3, .slice A f4.length c] 49))
          go_enter Try.func41, Try.ntmps41
          go_wp2
          go_ret
          exact ⟨A, c, rfl, HL.out, HC2.out, HA.out⟩
        · rw [if_neg h1, if_neg h2, if_neg h3, if_neg h4] at hF
          subst hF
          clear hn hs
          have HA := Aside0.mk (below_alloc (Below.refl w.heap.size w) (.cells #[.int .i64 f0, .int .i64 f1, .int .u64 f2, .int .i64 f3, .slice A f4.length c] 49))
          have HC2 := Aside0.mk (Kd.C_nil (Kd.int .u8) (w.alloc (.cells #[.int .i64 f0, .int .i64 f1, .int .u64 f2, .int .i64 f3, .slice A f4.length c] 49)))
          go_enter Try.func41, Try.ntmps41
          go_wp2
          go_ret
          exact ⟨none, 0, rfl, Nat.le_refl _, HC2.out, HA.out⟩
theorem WPost.of_alloc {w w' : World} {g : Nat} {row : Option Nat} {ys : List Int} {o : Obj} (h : WPost (w.alloc o) g row ys w') : WPost w g row ys w' := by
  obtain ⟨row', hs, hr, hf⟩ := h
  refine ⟨row', hs, hr.imp_right (fun ⟨b, hb, hl⟩ => ⟨b, hb, by rw [World.size_alloc] at hl; omega⟩), ((Fr.refl w (fun k => k = g ∨ row = some k)).alloc o).trans hf (fun _ _ h => h)⟩
theorem WS.post {w : World} {g : Nat} {row : Option Nat} {xs : List Int} (h : WS w g row xs) (o : Obj) : WPost w g row xs (w.alloc o) :=
  ⟨row, h.alloc o, .inl rfl, (Fr.refl w _).alloc o⟩
set_option maxRecDepth 100000 in
set_option maxHeartbeats 2000000 in
theorem law03_put_calls (g : Nat) (row : Option Nat) (xs : List Int) (p : S49) (A : Option Addr) (c : Nat) (w : World) (hw : WS w g row xs) (hf : WF49 p) (hC : Kd.C (Kd.int .u8) w A p.f4.length p.f4) (hl : xs.length + p.f4.length + 100 ≤ 140737488355328) :
    Calls Try.prog 42 #[.pointer (some ⟨g, 0, none⟩), .agg #[.int .i64 p.f0, .int .i64 p.f1, .int .u64 p.f2, .int .i64 p.f3, .slice A p.f4.length c]] w fun e w' => e = .returned (.pointer (some ⟨g, 0, none⟩)) ∧ WPost w g row (xs ++ partForm p) w' := by
  obtain ⟨f0, f1, f2, f3, f4⟩ := p
  have hn := hf.n
  have hs := hf.s
  generalize hF : partForm ⟨f0, f1, f2, f3, f4⟩ = F
  unfold partForm at hF
  dsimp only at *
  clear hf
  have hten := numForm_ten f2 hn.2
  by_cases h1 : f0 = 1
  · subst h1
    rw [if_pos rfl] at hF
    by_cases hk : f1 < 1 ∨ 8 < f1
    · rw [if_pos hk] at hF
      subst hF
      have HX := Aside0.mk (octets_Writer_Uint.none g f2 f1 (w.alloc (.cells #[.int .i64 1, .int .i64 f1, .int .u64 f2, .int .i64 f3, .slice A f4.length c] 49)) hk)
      have HS := Aside0.mk hw
      clear hn hs hw hl hten hk
      go_enter Try.func42, Try.ntmps42
      go_wp2_with fail
      refine HX.out.mono ?_
      rintro e w1 ⟨rfl, rfl⟩
      go_wp2
      go_ret
      exact ⟨rfl, by rw [List.append_nil]; exact HS.out.post _⟩
    · rw [if_neg hk] at hF
      subst hF
      have HX := Aside0.mk (octets_Writer_Uint.calls g row xs f2 f1 (w.alloc (.cells #[.int .i64 1, .int .i64 f1, .int .u64 f2, .int .i64 f3, .slice A f4.length c] 49)) hn.1 (hw.alloc _) (by omega) (by omega) (by omega))
      clear hn hs hw hl hten hk
      go_enter Try.func42, Try.ntmps42
      go_wp2_with fail
      refine HX.out.mono ?_
      rintro e w1 ⟨rfl, hp⟩
      have HP := Aside0.mk hp
      clear hp
      go_wp2
      go_ret
      exact ⟨rfl, HP.out.of_alloc⟩
  · by_cases h2 : f0 = 2
    · rw [if_neg h1, if_pos h2] at hF
      subst h2
      subst hF
      have HX := Aside0.mk (octets_Writer_Int.calls g row xs f3 (w.alloc (.cells #[.int .i64 2, .int .i64 f1, .int .u64 f2, .int .i64 f3, .slice A f4.length c] 49)) hs.1 hs.2 (hw.alloc _) (by omega))
      clear hn hs hw hl hten h1 hC
      go_enter Try.func42, Try.ntmps42
      go_wp2_with fail
      refine HX.out.mono ?_
      rintro e w1 ⟨rfl, hp⟩
      have HP := Aside0.mk hp
      clear hp
      go_wp2
      go_ret
      exact ⟨rfl, HP.out.of_alloc⟩
    · by_cases h3 : f0 = 3
      · rw [if_neg h1, if_neg h2, if_pos h3] at hF
        subst h3
        subst hF
        have HX := Aside0.mk (octets_Writer_Num.calls g row xs f2 (w.alloc (.cells #[.int .i64 3, .int .i64 f1, .int .u64 f2, .int .i64 f3, .slice A f4.length c] 49)) hn.1 (hw.alloc _) (by omega))
        clear hn hs hw hl hten h1 h2 hC
        go_enter Try.func42, Try.ntmps42
        go_wp2_with fail
        refine HX.out.mono ?_
        rintro e w1 ⟨rfl, hp⟩
        have HP := Aside0.mk hp
        clear hp
        go_wp2
        go_ret
        exact ⟨rfl, HP.out.of_alloc⟩
      · by_cases h4 : f0 = 4
        · rw [if_neg h1, if_neg h2, if_neg h3, if_pos h4] at hF
          subst h4
          subst hF
          have HX := Aside0.mk (octets_Writer_Raw.calls g row xs f4 A c (w.alloc (.cells #[.int .i64 4, .int .i64 f1, .int .u64 f2, .int .i64 f3, .slice A f4.length c] 49)) (hw.alloc _) (Kd.C_alloc hC _) (by omega))
          clear hn hs hw hl hten h1 h2 h3 hC
          go_enter Try.func42, Try.ntmps42
          go_wp2_with fail
          refine HX.out.mono ?_
          rintro e w1 ⟨rfl, hp⟩
          have HP := Aside0.mk hp
          clear hp
          go_wp2
          go_ret
          exact ⟨rfl, HP.out.of_alloc⟩
        · rw [if_neg h1, if_neg h2, if_neg h3, if_neg h4] at hF
          subst hF
          have HS := Aside0.mk hw
          clear hn hs hw hl hten hC
          go_enter Try.func42, Try.ntmps42
          go_wp2
          go_ret
          exact ⟨rfl, by rw [List.append_nil]; exact HS.out.post _⟩
set_option maxRecDepth 100000 in
set_option maxHeartbeats 2000000 in
theorem law03_put_nil (f0 f1 f2 f3 : Int) (n c : Nat) (A : Option Addr) (w : World) :
    Calls Try.prog 42 #[.pointer none, .agg #[.int .i64 f0, .int .i64 f1, .int .u64 f2, .int .i64 f3, .slice A n c]] w fun e w' => e = .returned (.pointer none) ∧ Below w.heap.size w w' := by
  have HB := Aside0.mk (below_alloc (Below.refl w.heap.size w) (.cells #[.int .i64 f0, .int .i64 f1, .int .u64 f2, .int .i64 f3, .slice A n c] 49))
  by_cases h1 : f0 = 1
  · subst h1
    skip
    go_enter Try.func42, Try.ntmps42
    go_wp2_with fail
    refine (octets_Writer_Uint.nil _ _ _).mono ?_
    rintro e w1 ⟨rfl, rfl⟩
    go_wp2
    go_ret
    exact ⟨rfl, HB.out⟩
  · by_cases h2 : f0 = 2
    · subst h2
      clear h1
      go_enter Try.func42, Try.ntmps42
      go_wp2_with fail
      refine (octets_Writer_Int.nil _ _).mono ?_
      rintro e w1 ⟨rfl, rfl⟩
      go_wp2
      go_ret
      exact ⟨rfl, HB.out⟩
    · by_cases h3 : f0 = 3
      · subst h3
        clear h1 h2
        go_enter Try.func42, Try.ntmps42
        go_wp2_with fail
        refine (octets_Writer_Num.nil _ _).mono ?_
        rintro e w1 ⟨rfl, rfl⟩
        go_wp2
        go_ret
        exact ⟨rfl, HB.out⟩
      · by_cases h4 : f0 = 4
        · subst h4
          clear h1 h2 h3
          go_enter Try.func42, Try.ntmps42
          go_wp2_with fail
          refine (octets_Writer_Raw.nil _ _).mono ?_
          rintro e w1 ⟨rfl, rfl⟩
          go_wp2
          go_ret
          exact ⟨rfl, HB.out⟩
        · go_enter Try.func42, Try.ntmps42
          go_wp2
          go_ret
          exact ⟨rfl, HB.out⟩
end Go.Proofs.Ytalpemoodollpaa.P
/- damperlaw03.got: what a reader reads. -/
namespace Go.Proofs.Ytalpemoodollpaa.P
open Go.RowKit Go.Proofs.YtalpemoodollpaaW.PrintWords Go.Proofs.YtalpemoodollpaaW.PrintLast Go.Proofs.YtalpemoodollpaaW.PrintMore
set_option linter.unusedVariables false
set_option linter.unusedSimpArgs false

theorem RPost.of_alloc {w w' : World} {g : Nat} {row : Option Nat} {s : List Int × Int} {o : Obj} (h : RPost (w.alloc o) g row s w') : RPost w g row s w' :=
  ⟨h.1, ((Fr.refl w (fun k => k = g)).alloc o).trans h.2 (fun _ _ h => h)⟩
theorem RPost.self {w : World} {g : Nat} {row : Option Nat} {s : List Int × Int} (h : RS w g row s) : RPost w g row s w := ⟨h, Fr.refl _ _⟩
/-- Raw, of any length asked. -/
theorem octets_Reader_Raw.any (g : Nat) (row : Option Nat) (s : List Int × Int) (n : Nat) (w : World) (hn : n ≤ 9223372036854775807) (hs : RS w g row s) (hl : s.1.length ≤ 140737488355328) :
    Calls Try.prog 105 #[.pointer (some ⟨g, 0, none⟩), .int .i64 (n : Int)] w fun e w' => ∃ v, e = .returned v ∧ Kd.R (Kd.int .u8) 5 w' w.heap.size (fun _ => True) v (rTake s n).1 ∧ RPost w g row (rTake s n).2.2 w' := by
  have HT := Aside0.mk (octets_Reader_take.calls g row s n w hn hs)
  have hl : (rTake s n).1.length ≤ 140737488355328 := by
    refine Nat.le_trans ?_ hl
    unfold rTake; split; simp; split; simp; simp only [List.length_take]; omega
  have HLT := Aside0.mk hl
  clear hs hl
  generalize rTake s n = T at *
  obtain ⟨xs, ok, st⟩ := T
  simp only at HLT HT ⊢
  have hn0 : 0 ≤ (n : Int) := by omega
  clear hn
  go_enter Try.func105, Try.ntmps105
  go_wp2_with fail
  refine HT.out.mono ?_
  rintro e w' ⟨A, c, rfl, hC, hlc, hY, hP⟩
  have HC := Aside0.mk hC
  have HP := Aside0.mk hP
  clear hC hY hP
  go_wp2_with fail
  refine (bytes_Clone.calls A c xs w' HC.out HLT.out).mono ?_
  rintro e w2 ⟨v, rfl, hR, hB⟩
  have HR := Aside0.mk hR
  have HB := Aside0.mk hB
  clear hR hB
  go_wp2
  go_ret
  have hP := HP.out
  refine ⟨v, rfl, Kd.R_lower HR.out hP.2.size, hP.1.fr (S := fun _ => False) (Fr.of_below HB.out _) (fun h => h) (fun _ _ h => h), hP.2.trans (Fr.of_below HB.out _) (fun _ _ h => h)⟩
/-- What a part reads: N, S, Raw, what is left. -/
def gotF (s : List Int × Int) (p : S49) : Int × Int × List Int × (List Int × Int) :=
  if p.f0 = 1 then ((rUint s p.f1).1, 0, [], (rUint s p.f1).2) else if p.f0 = 2 then (0, unzig (rUint s 8).1, [], (rUint s 8).2) else if p.f0 = 3 then ((rNum s).1, 0, [], (rNum s).2)
  else if p.f0 = 4 then (if p.f1 < 0 then (0, 0, [], s) else (0, 0, (rTake s p.f1.toNat).1, (rTake s p.f1.toNat).2.2)) else (0, 0, [], s)
/-- A box for what is read. -/
def Box5 (W : World) (b : Nat) (n s : Int) (v : Value) (z f : Int) : Prop := W.heap[b]? = some (.cells #[.int .u64 n, .int .i64 s, v, .int .i64 z, .int .i64 f] 81 (0, 0))
theorem Box5.cells {W : World} {b : Nat} {n s z f : Int} {v : Value} (h : Box5 W b n s v z f) : W.cell? ⟨b, 0, none⟩ = some (.int .u64 n) ∧ W.cell? ⟨b, 1, none⟩ = some (.int .i64 s) ∧ W.cell? ⟨b, 2, none⟩ = some v ∧ W.cell? ⟨b, 3, none⟩ = some (.int .i64 z) ∧ W.cell? ⟨b, 4, none⟩ = some (.int .i64 f) :=
  ⟨(blk_cell h 0).trans rfl, (blk_cell h 1).trans rfl, (blk_cell h 2).trans rfl, (blk_cell h 3).trans rfl, (blk_cell h 4).trans rfl⟩
theorem RS.lt {w : World} {g : Nat} {row : Option Nat} {s : List Int × Int} (h : RS w g row s) : g < w.heap.size := by
  obtain ⟨A, c, hb, _⟩ := h
  exact blk_lt hb
theorem RS.far {W : World} {g : Nat} {row : Option Nat} {st : List Int × Int} {b j : Nat} (h : RS W g row st) (hg : b ≠ g) (hr : row ≠ some b) (u : Value) : RS (W.setCell ⟨b, j, none⟩ u) g row st :=
  h.fr ((Fr.refl W (fun k => k = b)).setCell ⟨b, j, none⟩ u (fun _ => rfl)) (fun e => hg e.symm) (fun k hk e => hr (by rw [hk, e]))
theorem RS.far5 {W : World} {g : Nat} {row : Option Nat} {st : List Int × Int} {b : Nat} (h : RS W g row st) (hg : b ≠ g) (hr : row ≠ some b) (n s z f : Int) (v : Value) : RS (((((W.setCell ⟨b, 0, none⟩ (.int .u64 n)).setCell ⟨b, 1, none⟩ (.int .i64 s)).setCell ⟨b, 2, none⟩ v).setCell ⟨b, 3, none⟩ (.int .i64 z)).setCell ⟨b, 4, none⟩ (.int .i64 f)) g row st := (((((h.far hg hr (b := b) (j := 0) (.int .u64 n)).far hg hr (b := b) (j := 1) (.int .i64 s)).far hg hr (b := b) (j := 2) v).far hg hr (b := b) (j := 3) (.int .i64 z)).far hg hr (b := b) (j := 4) (.int .i64 f))
theorem Fr.far5 {w W : World} {S : Nat → Prop} {b : Nat} (h : Fr w W S) (hb : w.heap.size ≤ b) (n s z f : Int) (v : Value) : Fr w (((((W.setCell ⟨b, 0, none⟩ (.int .u64 n)).setCell ⟨b, 1, none⟩ (.int .i64 s)).setCell ⟨b, 2, none⟩ v).setCell ⟨b, 3, none⟩ (.int .i64 z)).setCell ⟨b, 4, none⟩ (.int .i64 f)) S := (Fr.setCell (Fr.setCell (Fr.setCell (Fr.setCell (Fr.setCell h ⟨b, 0, none⟩ (.int .u64 n) (fun hlt => absurd hlt (by show ¬ b < _; omega))) ⟨b, 1, none⟩ (.int .i64 s) (fun hlt => absurd hlt (by show ¬ b < _; omega))) ⟨b, 2, none⟩ v (fun hlt => absurd hlt (by show ¬ b < _; omega))) ⟨b, 3, none⟩ (.int .i64 z) (fun hlt => absurd hlt (by show ¬ b < _; omega))) ⟨b, 4, none⟩ (.int .i64 f) (fun hlt => absurd hlt (by show ¬ b < _; omega)))
theorem Box5.set5 {W : World} {b : Nat} {n0 s0 z0 f0 : Int} {v0 : Value} (h : Box5 W b n0 s0 v0 z0 f0) (n s z f : Int) (v : Value) : Box5 (((((W.setCell ⟨b, 0, none⟩ (.int .u64 n)).setCell ⟨b, 1, none⟩ (.int .i64 s)).setCell ⟨b, 2, none⟩ v).setCell ⟨b, 3, none⟩ (.int .i64 z)).setCell ⟨b, 4, none⟩ (.int .i64 f)) b n s v z f := (blk_set (blk_set (blk_set (blk_set (blk_set h 0 (.int .u64 n)) 1 (.int .i64 s)) 2 v) 3 (.int .i64 z)) 4 (.int .i64 f)).trans (by simp)
theorem RPost.far5 {w W : World} {g : Nat} {row : Option Nat} {st : List Int × Int} {b : Nat} (h : RPost w g row st W) (hb : w.heap.size ≤ b) (hg : g < w.heap.size) (hr : ∀ k, row = some k → k < w.heap.size) (n s z f : Int) (v : Value) : RPost w g row st (((((W.setCell ⟨b, 0, none⟩ (.int .u64 n)).setCell ⟨b, 1, none⟩ (.int .i64 s)).setCell ⟨b, 2, none⟩ v).setCell ⟨b, 3, none⟩ (.int .i64 z)).setCell ⟨b, 4, none⟩ (.int .i64 f)) :=
  ⟨h.1.far5 (by omega) (fun e => by have := hr b e; omega) n s z f v, h.2.far5 hb n s z f v⟩
theorem own_slice {A : Option Addr} {n c k : Nat} (h : A.map (·.block) = some k) : (Value.slice A n c).ownBlock = some k := by
  cases A with
  | none => cases h
  | some a => exact h
theorem C_far5 {W : World} {A : Option Addr} {xs : List Int} {b : Nat} (h : Kd.C (Kd.int .u8) W A xs.length xs) (hb : ∀ k, A.map (·.block) = some k → k ≠ b) (n s z f : Int) (v : Value) : Kd.C (Kd.int .u8) (((((W.setCell ⟨b, 0, none⟩ (.int .u64 n)).setCell ⟨b, 1, none⟩ (.int .i64 s)).setCell ⟨b, 2, none⟩ v).setCell ⟨b, 3, none⟩ (.int .i64 z)).setCell ⟨b, 4, none⟩ (.int .i64 f)) A xs.length xs :=
  Fr.C (S := fun k => k = b) (Fr.setCell (Fr.setCell (Fr.setCell (Fr.setCell (Fr.setCell (Fr.refl W (fun k => k = b)) ⟨b, 0, none⟩ (.int .u64 n) (fun _ => rfl)) ⟨b, 1, none⟩ (.int .i64 s) (fun _ => rfl)) ⟨b, 2, none⟩ v (fun _ => rfl)) ⟨b, 3, none⟩ (.int .i64 z) (fun _ => rfl)) ⟨b, 4, none⟩ (.int .i64 f) (fun _ => rfl)) h (fun k hk e => hb k hk e)
theorem octets_NewReader.calls2 (A : Option Addr) (c : Nat) (bs : List Int) (w : World) (hr : Kd.C (Kd.int .u8) w A bs.length bs) (hl : bs.length ≤ 140737488355328) (hb : Byt bs) :
    Calls Try.prog 60 #[.slice A bs.length c] w fun e w' => ∃ g row, e = .returned (.pointer (some ⟨g, 0, none⟩)) ∧ RS w' g row (bs, 0) ∧ Below w.heap.size w w' ∧ w.heap.size ≤ g ∧ g < w'.heap.size ∧ ∀ k, row = some k → w.heap.size ≤ k ∧ k < w'.heap.size := by
  have HR := Aside0.mk hr
  have HY := Aside0.mk hb
  clear hr hb
  go_enter Try.func60, Try.ntmps60
  go_wp2_with fail
  refine (bytes_Clone.calls A c bs w HR.out hl).mono ?_
  rintro e w' ⟨v0, rfl, hR, hB⟩
  obtain ⟨A1, c1, rfl, hlc, hC⟩ := Kd.R_reads hR
  have hbase := Kd.R_bound hR
  have HC := Aside0.mk hC
  have HB := Aside0.mk hB
  have HBASE := Aside0.mk hbase.1
  clear hR hC hB hbase
  go_wp2
  go_ret
  refine ⟨w'.heap.size, _, rfl, ⟨A1, c1, ?_, hlc, Kd.C_below HC.out (below_alloc (Below.refl _ _) _), rfl, ?_, HY.out⟩, below_alloc HB.out _, HB.out.size, ?_, ?_⟩
  · exact blk_new w' _
  · intro e
    have := HBASE.out w'.heap.size (by cases A1 <;> simp_all [Value.ownBlock])
    omega
  · simp
  · intro k hk
    have := HBASE.out k (by cases A1 <;> simp_all [Value.ownBlock])
    refine ⟨this.2.1, ?_⟩
    rw [World.size_alloc]
    have := this.2.2.1
    omega
set_option maxRecDepth 100000 in
set_option maxHeartbeats 4000000 in
theorem law03_got_calls (g : Nat) (row : Option Nat) (s : List Int × Int) (p : S49) (A : Option Addr) (c : Nat) (w : World) (hs : RS w g row s) (hrow : ∀ k, row = some k → k < w.heap.size) (hw : WF49 p) (hl : s.1.length ≤ 140737488355328) :
    Calls Try.prog 62 #[.pointer (some ⟨g, 0, none⟩), .agg #[.int .i64 p.f0, .int .i64 p.f1, .int .u64 p.f2, .int .i64 p.f3, .slice A p.f4.length c]] w fun e w' =>
      ∃ B m, e = .returned (.agg #[.int .u64 (gotF s p).1, .int .i64 (gotF s p).2.1, .slice B (gotF s p).2.2.1.length m, .int .i64 0, .int .i64 0]) ∧ (gotF s p).2.2.1.length ≤ m ∧ Kd.C (Kd.int .u8) w' B (gotF s p).2.2.1.length (gotF s p).2.2.1 ∧ RPost w g row (gotF s p).2.2.2 w' := by
  have hf1 := Go.Proofs.Ytalpemoodollpaa.row.wf_i64 hw.2.1
  obtain ⟨f0, f1, f2, f3, f4⟩ := p
  generalize hG : gotF s ⟨f0, f1, f2, f3, f4⟩ = G
  unfold gotF at hG
  dsimp only at *
  clear hw
  have hg := hs.lt
  have HGL := Aside0.mk hg
  have HROW := Aside0.mk hrow
  clear hg hrow
  by_cases h1 : f0 = 1
  · rw [if_pos h1] at hG
    subst h1
    have HX := Aside0.mk (octets_Reader_Uint.calls g row s f1 ((w.alloc (.cells #[.int .i64 1, .int .i64 f1, .int .u64 f2, .int .i64 f3, .slice A f4.length c] 49)).alloc (.cells #[.int .u64 0, .int .i64 0, .slice none 0 0, .int .i64 0, .int .i64 0] 81)) ((hs.below (below_alloc (Below.refl _ _) _)).below (below_alloc (Below.refl _ _) _)))
    have HB := Aside0.mk (show Box5 ((w.alloc (.cells #[.int .i64 1, .int .i64 f1, .int .u64 f2, .int .i64 f3, .slice A f4.length c] 49)).alloc (.cells #[.int .u64 0, .int .i64 0, .slice none 0 0, .int .i64 0, .int .i64 0] 81)) (w.heap.size + 1) 0 0 (.slice none 0 0) 0 0 from by
      have := blk_new (w.alloc (.cells #[.int .i64 1, .int .i64 f1, .int .u64 f2, .int .i64 f3, .slice A f4.length c] 49)) (.cells #[.int .u64 0, .int .i64 0, .slice none 0 0, .int .i64 0, .int .i64 0] 81)
      rw [World.size_alloc] at this
      exact this)
    generalize rUint s f1 = T at *
    obtain ⟨tn, ts⟩ := T
    have HG := Aside0.mk hG
    clear hG hs hl hf1
    go_enter Try.func62, Try.ntmps62
    go_wp2_with fail
    refine HX.out.mono ?_
    rintro e w1 ⟨rfl, hp⟩
    have HP := Aside0.mk hp
    have HB1 : Aside0 (Box5 w1 (w.heap.size + 1) 0 0 (.slice none 0 0) 0 0) := ⟨hp.2.blk HB.out (fun hS => by have := HGL.out; omega)⟩
    have HB2 := Aside0.mk (HB1.out.set5 tn 0 0 0 (.slice none 0 0))
    have HP2 := Aside0.mk (HP.out.of_alloc.of_alloc.far5 (b := w.heap.size + 1) (by omega) HGL.out HROW.out tn 0 0 0 (.slice none 0 0))
    clear hp
    obtain ⟨d0, d1, d2, d3, d4⟩ := HB1.out.cells
    have y0 := blk_frozen HB1.out 0
    have y1 := blk_frozen HB1.out 1
    have y2 := blk_frozen HB1.out 2
    have y3 := blk_frozen HB1.out 3
    have y4 := blk_frozen HB1.out 4
    go_wp2
    refine bodyPost_ret (results_cell_row (fn := Try.f62) (p := 4) (ty := 81) rfl _ _ (w.heap.size + 1) 81 #[.int .u64 tn, .int .i64 0, (.slice none 0 0), .int .i64 0, .int .i64 0] (0, 0) _ rfl HB2.out Try.underlying81 rfl (by kernel_rfl)) rfl ?_
    obtain rfl := HG.out
    exact ⟨none, 0, rfl, Nat.le_refl _, Kd.C_nil _ _, HP2.out⟩
  · by_cases h2 : f0 = 2
    · rw [if_neg h1, if_pos h2] at hG
      clear h1
      subst h2
      have HX := Aside0.mk (octets_Reader_Int.calls g row s ((w.alloc (.cells #[.int .i64 2, .int .i64 f1, .int .u64 f2, .int .i64 f3, .slice A f4.length c] 49)).alloc (.cells #[.int .u64 0, .int .i64 0, .slice none 0 0, .int .i64 0, .int .i64 0] 81)) ((hs.below (below_alloc (Below.refl _ _) _)).below (below_alloc (Below.refl _ _) _)))
      have HB := Aside0.mk (show Box5 ((w.alloc (.cells #[.int .i64 2, .int .i64 f1, .int .u64 f2, .int .i64 f3, .slice A f4.length c] 49)).alloc (.cells #[.int .u64 0, .int .i64 0, .slice none 0 0, .int .i64 0, .int .i64 0] 81)) (w.heap.size + 1) 0 0 (.slice none 0 0) 0 0 from by
        have := blk_new (w.alloc (.cells #[.int .i64 2, .int .i64 f1, .int .u64 f2, .int .i64 f3, .slice A f4.length c] 49)) (.cells #[.int .u64 0, .int .i64 0, .slice none 0 0, .int .i64 0, .int .i64 0] 81)
        rw [World.size_alloc] at this
        exact this)
      generalize rUint s 8 = T at *
      obtain ⟨tn, ts⟩ := T
      have HG := Aside0.mk hG
      clear hG hs hl hf1
      go_enter Try.func62, Try.ntmps62
      go_wp2_with fail
      refine HX.out.mono ?_
      rintro e w1 ⟨rfl, hp⟩
      have HP := Aside0.mk hp
      have HB1 : Aside0 (Box5 w1 (w.heap.size + 1) 0 0 (.slice none 0 0) 0 0) := ⟨hp.2.blk HB.out (fun hS => by have := HGL.out; omega)⟩
      have HB2 := Aside0.mk (HB1.out.set5 0 (unzig tn) 0 0 (.slice none 0 0))
      have HP2 := Aside0.mk (HP.out.of_alloc.of_alloc.far5 (b := w.heap.size + 1) (by omega) HGL.out HROW.out 0 (unzig tn) 0 0 (.slice none 0 0))
      clear hp
      obtain ⟨d0, d1, d2, d3, d4⟩ := HB1.out.cells
      have y0 := blk_frozen HB1.out 0
      have y1 := blk_frozen HB1.out 1
      have y2 := blk_frozen HB1.out 2
      have y3 := blk_frozen HB1.out 3
      have y4 := blk_frozen HB1.out 4
      go_wp2
      refine bodyPost_ret (results_cell_row (fn := Try.f62) (p := 4) (ty := 81) rfl _ _ (w.heap.size + 1) 81 #[.int .u64 0, .int .i64 (unzig tn), (.slice none 0 0), .int .i64 0, .int .i64 0] (0, 0) _ rfl HB2.out Try.underlying81 rfl (by kernel_rfl)) rfl ?_
      obtain rfl := HG.out
      exact ⟨none, 0, rfl, Nat.le_refl _, Kd.C_nil _ _, HP2.out⟩
    · by_cases h3 : f0 = 3
      · rw [if_neg h1, if_neg h2, if_pos h3] at hG
        clear h1 h2
        subst h3
        have HX := Aside0.mk (octets_Reader_Num.calls g row s ((w.alloc (.cells #[.int .i64 3, .int .i64 f1, .int .u64 f2, .int .i64 f3, .slice A f4.length c] 49)).alloc (.cells #[.int .u64 0, .int .i64 0, .slice none 0 0, .int .i64 0, .int .i64 0] 81)) ((hs.below (below_alloc (Below.refl _ _) _)).below (below_alloc (Below.refl _ _) _)))
        have HB := Aside0.mk (show Box5 ((w.alloc (.cells #[.int .i64 3, .int .i64 f1, .int .u64 f2, .int .i64 f3, .slice A f4.length c] 49)).alloc (.cells #[.int .u64 0, .int .i64 0, .slice none 0 0, .int .i64 0, .int .i64 0] 81)) (w.heap.size + 1) 0 0 (.slice none 0 0) 0 0 from by
          have := blk_new (w.alloc (.cells #[.int .i64 3, .int .i64 f1, .int .u64 f2, .int .i64 f3, .slice A f4.length c] 49)) (.cells #[.int .u64 0, .int .i64 0, .slice none 0 0, .int .i64 0, .int .i64 0] 81)
          rw [World.size_alloc] at this
          exact this)
        generalize rNum s = T at *
        obtain ⟨tn, ts⟩ := T
        have HG := Aside0.mk hG
        clear hG hs hl hf1
        go_enter Try.func62, Try.ntmps62
        go_wp2_with fail
        refine HX.out.mono ?_
        rintro e w1 ⟨rfl, hp⟩
        have HP := Aside0.mk hp
        have HB1 : Aside0 (Box5 w1 (w.heap.size + 1) 0 0 (.slice none 0 0) 0 0) := ⟨hp.2.blk HB.out (fun hS => by have := HGL.out; omega)⟩
        have HB2 := Aside0.mk (HB1.out.set5 tn 0 0 0 (.slice none 0 0))
        have HP2 := Aside0.mk (HP.out.of_alloc.of_alloc.far5 (b := w.heap.size + 1) (by omega) HGL.out HROW.out tn 0 0 0 (.slice none 0 0))
        clear hp
        obtain ⟨d0, d1, d2, d3, d4⟩ := HB1.out.cells
        have y0 := blk_frozen HB1.out 0
        have y1 := blk_frozen HB1.out 1
        have y2 := blk_frozen HB1.out 2
        have y3 := blk_frozen HB1.out 3
        have y4 := blk_frozen HB1.out 4
        go_wp2
        refine bodyPost_ret (results_cell_row (fn := Try.f62) (p := 4) (ty := 81) rfl _ _ (w.heap.size + 1) 81 #[.int .u64 tn, .int .i64 0, (.slice none 0 0), .int .i64 0, .int .i64 0] (0, 0) _ rfl HB2.out Try.underlying81 rfl (by kernel_rfl)) rfl ?_
        obtain rfl := HG.out
        exact ⟨none, 0, rfl, Nat.le_refl _, Kd.C_nil _ _, HP2.out⟩
      · by_cases h4 : f0 = 4
        · rw [if_neg h1, if_neg h2, if_neg h3, if_pos h4] at hG
          clear h1 h2 h3
          subst h4
          by_cases hneg : f1 < 0
          · rw [if_pos hneg] at hG
            have HX := Aside0.mk (octets_Reader_Raw.neg g f1 ((w.alloc (.cells #[.int .i64 4, .int .i64 f1, .int .u64 f2, .int .i64 f3, .slice A f4.length c] 49)).alloc (.cells #[.int .u64 0, .int .i64 0, .slice none 0 0, .int .i64 0, .int .i64 0] 81)) hneg)
            have HRS := Aside0.mk (show RPost ((w.alloc (.cells #[.int .i64 4, .int .i64 f1, .int .u64 f2, .int .i64 f3, .slice A f4.length c] 49)).alloc (.cells #[.int .u64 0, .int .i64 0, .slice none 0 0, .int .i64 0, .int .i64 0] 81)) g row s ((w.alloc (.cells #[.int .i64 4, .int .i64 f1, .int .u64 f2, .int .i64 f3, .slice A f4.length c] 49)).alloc (.cells #[.int .u64 0, .int .i64 0, .slice none 0 0, .int .i64 0, .int .i64 0] 81)) from RPost.self ((hs.below (below_alloc (Below.refl _ _) _)).below (below_alloc (Below.refl _ _) _)))
            have HB := Aside0.mk (show Box5 ((w.alloc (.cells #[.int .i64 4, .int .i64 f1, .int .u64 f2, .int .i64 f3, .slice A f4.length c] 49)).alloc (.cells #[.int .u64 0, .int .i64 0, .slice none 0 0, .int .i64 0, .int .i64 0] 81)) (w.heap.size + 1) 0 0 (.slice none 0 0) 0 0 from by
              have := blk_new (w.alloc (.cells #[.int .i64 4, .int .i64 f1, .int .u64 f2, .int .i64 f3, .slice A f4.length c] 49)) (.cells #[.int .u64 0, .int .i64 0, .slice none 0 0, .int .i64 0, .int .i64 0] 81)
              rw [World.size_alloc] at this
              exact this)
            have HG := Aside0.mk hG
            clear hG hs hl hf1 hneg
            go_enter Try.func62, Try.ntmps62
            go_wp2_with fail
            refine HX.out.mono ?_
            rintro e w1 ⟨rfl, rfl⟩
            have HB1 := HB
            have HB2 := HB
            have HP2 := Aside0.mk (HRS.out.of_alloc.of_alloc)
            obtain ⟨d0, d1, d2, d3, d4⟩ := HB1.out.cells
            have y0 := blk_frozen HB1.out 0
            have y1 := blk_frozen HB1.out 1
            have y2 := blk_frozen HB1.out 2
            have y3 := blk_frozen HB1.out 3
            have y4 := blk_frozen HB1.out 4
            go_wp2
            refine bodyPost_ret (results_cell_row (fn := Try.f62) (p := 4) (ty := 81) rfl _ _ (w.heap.size + 1) 81 #[.int .u64 0, .int .i64 0, (.slice none 0 0), .int .i64 0, .int .i64 0] (0, 0) _ rfl HB2.out Try.underlying81 rfl (by kernel_rfl)) rfl ?_
            obtain rfl := HG.out
            exact ⟨none, 0, rfl, Nat.le_refl _, Kd.C_nil _ _, HP2.out⟩
          · rw [if_neg hneg] at hG
            obtain ⟨m, rfl⟩ := Int.eq_ofNat_of_zero_le (show 0 ≤ f1 by omega)
            rw [Int.toNat_natCast] at hG
            have HX := Aside0.mk (octets_Reader_Raw.any g row s m ((w.alloc (.cells #[.int .i64 4, .int .i64 (m : Int), .int .u64 f2, .int .i64 f3, .slice A f4.length c] 49)).alloc (.cells #[.int .u64 0, .int .i64 0, .slice none 0 0, .int .i64 0, .int .i64 0] 81)) (by omega) ((hs.below (below_alloc (Below.refl _ _) _)).below (below_alloc (Below.refl _ _) _)) hl)
            have HB := Aside0.mk (show Box5 ((w.alloc (.cells #[.int .i64 4, .int .i64 (m : Int), .int .u64 f2, .int .i64 f3, .slice A f4.length c] 49)).alloc (.cells #[.int .u64 0, .int .i64 0, .slice none 0 0, .int .i64 0, .int .i64 0] 81)) (w.heap.size + 1) 0 0 (.slice none 0 0) 0 0 from by
              have := blk_new (w.alloc (.cells #[.int .i64 4, .int .i64 (m : Int), .int .u64 f2, .int .i64 f3, .slice A f4.length c] 49)) (.cells #[.int .u64 0, .int .i64 0, .slice none 0 0, .int .i64 0, .int .i64 0] 81)
              rw [World.size_alloc] at this
              exact this)
            generalize rTake s m = T at *
            obtain ⟨ts, tok, tst⟩ := T
            have HG := Aside0.mk hG
            clear hG hs hl hf1 hneg
            go_enter Try.func62, Try.ntmps62
            go_wp2_with fail
            refine HX.out.mono ?_
            rintro e w1 ⟨v, rfl, hR, hp⟩
            obtain ⟨B, mm, rfl, hq, hC⟩ := Kd.R_reads hR
            have hbnd := (Kd.R_bound hR).1
            have HC := Aside0.mk hC
            have HQ := Aside0.mk hq
            have HBND := Aside0.mk hbnd
            have HP0 := Aside0.mk hp
            clear hR hC hq hbnd hp
            have HB1 : Aside0 (Box5 w1 (w.heap.size + 1) 0 0 (.slice none 0 0) 0 0) := ⟨HP0.out.2.blk HB.out (fun hS => by have := HGL.out; omega)⟩
            have HB2 := Aside0.mk (HB1.out.set5 0 0 0 0 (.slice B ts.length mm))
            have HP2 := Aside0.mk (HP0.out.of_alloc.of_alloc.far5 (b := w.heap.size + 1) (by omega) HGL.out HROW.out 0 0 0 0 (.slice B ts.length mm))
            have HC2 := Aside0.mk (C_far5 HC.out (b := w.heap.size + 1) (fun k hk e => by have := (HBND.out k (own_slice hk)).2.1; simp only [World.size_alloc] at this; omega) 0 0 0 0 (.slice B ts.length mm))
            obtain ⟨d0, d1, d2, d3, d4⟩ := HB1.out.cells
            have y0 := blk_frozen HB1.out 0
            have y1 := blk_frozen HB1.out 1
            have y2 := blk_frozen HB1.out 2
            have y3 := blk_frozen HB1.out 3
            have y4 := blk_frozen HB1.out 4
            go_wp2
            refine bodyPost_ret (results_cell_row (fn := Try.f62) (p := 4) (ty := 81) rfl _ _ (w.heap.size + 1) 81 #[.int .u64 0, .int .i64 0, (.slice B ts.length mm), .int .i64 0, .int .i64 0] (0, 0) _ rfl HB2.out Try.underlying81 rfl (by kernel_rfl)) rfl ?_
            obtain rfl := HG.out
            exact ⟨B, mm, rfl, HQ.out, HC2.out, HP2.out⟩
        · rw [if_neg h1, if_neg h2, if_neg h3, if_neg h4] at hG
          have HRS := Aside0.mk (show RPost ((w.alloc (.cells #[.int .i64 f0, .int .i64 f1, .int .u64 f2, .int .i64 f3, .slice A f4.length c] 49)).alloc (.cells #[.int .u64 0, .int .i64 0, .slice none 0 0, .int .i64 0, .int .i64 0] 81)) g row s ((w.alloc (.cells #[.int .i64 f0, .int .i64 f1, .int .u64 f2, .int .i64 f3, .slice A f4.length c] 49)).alloc (.cells #[.int .u64 0, .int .i64 0, .slice none 0 0, .int .i64 0, .int .i64 0] 81)) from RPost.self ((hs.below (below_alloc (Below.refl _ _) _)).below (below_alloc (Below.refl _ _) _)))
          have HB := Aside0.mk (show Box5 ((w.alloc (.cells #[.int .i64 f0, .int .i64 f1, .int .u64 f2, .int .i64 f3, .slice A f4.length c] 49)).alloc (.cells #[.int .u64 0, .int .i64 0, .slice none 0 0, .int .i64 0, .int .i64 0] 81)) (w.heap.size + 1) 0 0 (.slice none 0 0) 0 0 from by
            have := blk_new (w.alloc (.cells #[.int .i64 f0, .int .i64 f1, .int .u64 f2, .int .i64 f3, .slice A f4.length c] 49)) (.cells #[.int .u64 0, .int .i64 0, .slice none 0 0, .int .i64 0, .int .i64 0] 81)
            rw [World.size_alloc] at this
            exact this)
          have HG := Aside0.mk hG
          clear hG hs hl hf1
          have HB2 := HB
          have HP2 := Aside0.mk (HRS.out.of_alloc.of_alloc)
          obtain ⟨d0, d1, d2, d3, d4⟩ := HB.out.cells
          have y0 := blk_frozen HB.out 0
          have y1 := blk_frozen HB.out 1
          have y2 := blk_frozen HB.out 2
          have y3 := blk_frozen HB.out 3
          have y4 := blk_frozen HB.out 4
          go_enter Try.func62, Try.ntmps62
          go_wp2
          refine bodyPost_ret (results_cell_row (fn := Try.f62) (p := 4) (ty := 81) rfl _ _ (w.heap.size + 1) 81 #[.int .u64 0, .int .i64 0, (.slice none 0 0), .int .i64 0, .int .i64 0] (0, 0) _ rfl HB2.out Try.underlying81 rfl (by kernel_rfl)) rfl ?_
          obtain rfl := HG.out
          exact ⟨none, 0, rfl, Nat.le_refl _, Kd.C_nil _ _, HP2.out⟩
end Go.Proofs.Ytalpemoodollpaa.P
/- A box of nine numbers. -/
namespace Go.Proofs.Ytalpemoodollpaa.P
open Go.RowKit Go.Proofs.YtalpemoodollpaaW.PrintWords Go.Proofs.YtalpemoodollpaaW.PrintLast Go.Proofs.YtalpemoodollpaaW.PrintMore
set_option linter.unusedVariables false
set_option linter.unusedSimpArgs false

/-- A box of nine numbers at block b. -/
def Box9 (W : World) (t : Nat) (b : Nat) (x0 x1 x2 x3 x4 x5 x6 x7 x8 : Int) : Prop :=
  W.heap[b]? = some (.cells #[.int .i64 x0, .int .i64 x1, .int .i64 x2, .int .i64 x3, .int .i64 x4, .int .i64 x5, .int .i64 x6, .int .i64 x7, .int .i64 x8] t (0, 0))
theorem Box9.cells {W : World} {t b : Nat} {x0 x1 x2 x3 x4 x5 x6 x7 x8 : Int} (h : Box9 W t b x0 x1 x2 x3 x4 x5 x6 x7 x8) :
    W.cell? ⟨b, 0, none⟩ = some (.int .i64 x0) ∧ W.cell? ⟨b, 1, none⟩ = some (.int .i64 x1) ∧ W.cell? ⟨b, 2, none⟩ = some (.int .i64 x2) ∧ W.cell? ⟨b, 3, none⟩ = some (.int .i64 x3) ∧ W.cell? ⟨b, 4, none⟩ = some (.int .i64 x4) ∧
    W.cell? ⟨b, 5, none⟩ = some (.int .i64 x5) ∧ W.cell? ⟨b, 6, none⟩ = some (.int .i64 x6) ∧ W.cell? ⟨b, 7, none⟩ = some (.int .i64 x7) ∧ W.cell? ⟨b, 8, none⟩ = some (.int .i64 x8) :=
  ⟨(blk_cell h 0).trans rfl, (blk_cell h 1).trans rfl, (blk_cell h 2).trans rfl, (blk_cell h 3).trans rfl, (blk_cell h 4).trans rfl, (blk_cell h 5).trans rfl, (blk_cell h 6).trans rfl, (blk_cell h 7).trans rfl, (blk_cell h 8).trans rfl⟩

end Go.Proofs.Ytalpemoodollpaa.P
/- A reader of one's own, call by call. -/
namespace Go.Proofs.Ytalpemoodollpaa.P
open Go.RowKit Go.Proofs.YtalpemoodollpaaW.PrintWords Go.Proofs.YtalpemoodollpaaW.PrintLast Go.Proofs.YtalpemoodollpaaW.PrintMore
set_option linter.unusedVariables false
set_option linter.unusedSimpArgs false
/-- All blocks but g stay. -/
def KeepG (W W1 : World) (g : Nat) : Prop := ∀ (k : Nat) (o : Obj), W.heap[k]? = some o → k ≠ g → W1.heap[k]? = some o
/-- A reader at g, whose block and row lie at lo or behind; below the first world's end all is as it was. -/
structure RK (w0 W : World) (lo g : Nat) (s : List Int × Int) : Prop where
  ex : ∃ row, RS W g row s ∧ ∀ k, row = some k → lo ≤ k
  bel : Below w0.heap.size w0 W
  hlo : w0.heap.size ≤ lo
  hg : lo ≤ g
namespace RK
variable {w0 W W1 : World} {lo g : Nat} {s s1 : List Int × Int}
theorem of_post {row : Option Nat} (hr : ∀ k, row = some k → lo ≤ k) (hB : Below w0.heap.size w0 W) (hlo : w0.heap.size ≤ lo) (hg : lo ≤ g) (hp : RPost W g row s1 W1) : RK w0 W1 lo g s1 ∧ KeepG W W1 g :=
  ⟨⟨⟨row, hp.1, hr⟩, hB.trans (hp.2.below hB.size (fun k hk => by rw [hk]; omega)), hlo, hg⟩, fun k o h hne => hp.2.blk h hne⟩
theorem below (h : RK w0 W lo g s) (hb : Below W.heap.size W W1) : RK w0 W1 lo g s := by
  obtain ⟨⟨row, hs, hr⟩, hB, hlo, hg⟩ := h
  exact ⟨⟨row, hs.below hb, hr⟩, below_then hB hB.size hb, hlo, hg⟩
theorem alloc (h : RK w0 W lo g s) (o : Obj) : RK w0 (W.alloc o) lo g s := h.below (below_alloc (Below.refl _ _) _)
theorem set (h : RK w0 W lo g s) {b j : Nat} (h0 : w0.heap.size ≤ b) (hb : b < lo) (u : Value) : RK w0 (W.setCell ⟨b, j, none⟩ u) lo g s := by
  obtain ⟨⟨row, hs, hr⟩, hB, hlo, hg⟩ := h
  exact ⟨⟨row, hs.far (by omega) (fun e => by have := hr b e; omega) u, hr⟩, hB.setCell (p := ⟨b, j, none⟩) h0 u, hlo, hg⟩
theorem drewN (h : RK w0 W lo g s) (n : Nat) : RK w0 (W.drewN n) lo g s := h.below (pw_below_drewN (Below.refl _ _) n)
theorem bound (h : RK w0 W lo g s) : s.1.length ≤ 9223372036854775807 := by
  obtain ⟨⟨row, ⟨A, c, _, _, hC, _⟩, _⟩, _⟩ := h
  exact C_bound hC
theorem byt (h : RK w0 W lo g s) : Byt s.1 := by
  obtain ⟨⟨row, ⟨A, c, _, _, _, _, _, hb⟩, _⟩, _⟩ := h
  exact hb
theorem lt (h : RK w0 W lo g s) : g < W.heap.size := by
  obtain ⟨⟨row, hs, _⟩, _⟩ := h
  exact hs.lt
theorem uint (h : RK w0 W lo g s) (k : Int) :
    Calls Try.prog 104 #[.pointer (some ⟨g, 0, none⟩), .int .i64 k] W fun e w' => e = .returned (.int .u64 (rUint s k).1) ∧ RK w0 w' lo g (rUint s k).2 ∧ KeepG W w' g := by
  obtain ⟨⟨row, hs, hr⟩, hB, hlo, hg⟩ := h
  exact (octets_Reader_Uint.calls g row s k W hs).mono fun e w' ⟨he, hp⟩ => ⟨he, of_post hr hB hlo hg hp⟩
theorem int (h : RK w0 W lo g s) :
    Calls Try.prog 117 #[.pointer (some ⟨g, 0, none⟩)] W fun e w' => e = .returned (.int .i64 (unzig (rUint s 8).1)) ∧ RK w0 w' lo g (rUint s 8).2 ∧ KeepG W w' g := by
  obtain ⟨⟨row, hs, hr⟩, hB, hlo, hg⟩ := h
  exact (octets_Reader_Int.calls g row s W hs).mono fun e w' ⟨he, hp⟩ => ⟨he, of_post hr hB hlo hg hp⟩
theorem num (h : RK w0 W lo g s) :
    Calls Try.prog 100 #[.pointer (some ⟨g, 0, none⟩)] W fun e w' => e = .returned (.int .u64 (rNum s).1) ∧ RK w0 w' lo g (rNum s).2 ∧ KeepG W w' g := by
  obtain ⟨⟨row, hs, hr⟩, hB, hlo, hg⟩ := h
  exact (octets_Reader_Num.calls g row s W hs).mono fun e w' ⟨he, hp⟩ => ⟨he, of_post hr hB hlo hg hp⟩
theorem fault (h : RK w0 W lo g s) : Calls Try.prog 63 #[.pointer (some ⟨g, 0, none⟩)] W fun e w' => e = .returned (.int .i64 s.2) ∧ W = w' := by
  obtain ⟨⟨row, hs, hr⟩, hB, hlo, hg⟩ := h
  exact octets_Reader_Fault.calls g row s W hs
theorem left (h : RK w0 W lo g s) : Calls Try.prog 64 #[.pointer (some ⟨g, 0, none⟩)] W fun e w' => e = .returned (.int .i64 s.1.length) ∧ W = w' := by
  obtain ⟨⟨row, hs, hr⟩, hB, hlo, hg⟩ := h
  exact octets_Reader_Left.calls g row s W hs
/-- A new one. -/
theorem new (A : Option Addr) (c : Nat) (bs : List Int) (hB : Below w0.heap.size w0 W) (hr : Kd.C (Kd.int .u8) W A bs.length bs) (hl : bs.length ≤ 140737488355328) (hb : Byt bs) :
    Calls Try.prog 60 #[.slice A bs.length c] W fun e w' => ∃ g, e = .returned (.pointer (some ⟨g, 0, none⟩)) ∧ RK w0 w' W.heap.size g (bs, 0) ∧ Below W.heap.size W w' := by
  refine (octets_NewReader.calls A c bs W hr hl hb).mono ?_
  rintro e w' ⟨g, row, he, hs, hbl, hg, _, hrow⟩
  exact ⟨g, he, ⟨⟨row, hs, hrow⟩, below_then hB hB.size hbl, hB.size, hg⟩, hbl⟩
end RK
theorem KeepG.box {W W1 : World} {g t b : Nat} {x0 x1 x2 x3 x4 x5 x6 x7 x8 : Int} (h : KeepG W W1 g) (hb : Box9 W t b x0 x1 x2 x3 x4 x5 x6 x7 x8) (hne : b ≠ g) : Box9 W1 t b x0 x1 x2 x3 x4 x5 x6 x7 x8 := h _ _ hb hne
theorem rUint1_range (s : List Int × Int) (h : Byt s.1) : 0 ≤ (rUint s 1).1 ∧ (rUint s 1).1 ≤ 255 := by
  obtain ⟨l, f⟩ := s
  have z : (0 : Int) ≤ 0 ∧ (0 : Int) ≤ 255 := by decide
  unfold rUint
  rw [if_neg (by decide), show (1 : Int).toNat = 1 from rfl]
  unfold rTake
  split
  · exact z
  · split
    · exact z
    · cases l with
      | nil => exact z
      | cons b bs =>
        have hb := (Byt.cons h).1
        have e : beNum [b] = b := by simp [beNum]
        simp only [List.take_succ_cons, List.take_zero, e]
        exact hb
theorem z64 : (0 : Int) ≤ 0 ∧ (0 : Int) < 18446744073709551616 := by decide
theorem byt_rTake (s : List Int × Int) (n : Nat) (h : Byt s.1) : Byt (rTake s n).2.2.1 := by
  unfold rTake
  split
  · exact h
  · split
    · exact h
    · exact h.drop n
theorem byt_rUint (s : List Int × Int) (k : Int) (h : Byt s.1) : Byt (rUint s k).2.1 := by
  unfold rUint
  split
  · exact h
  · exact byt_rTake s _ h
theorem byt_numGo (k : Nat) : ∀ (i : Nat) (n : Int) (l : List Int), Byt l → Byt (numGo k i n l).2.1 := by
  induction k with
  | zero => intro i n l h; exact h
  | succ k ih =>
    intro i n l h
    cases l with
    | nil => exact Byt.nil
    | cons b bs =>
      rw [numGo]
      split
      · exact h.cons.2
      · split
        · exact ih _ _ _ h.cons.2
        · split <;> exact h.cons.2
theorem byt_rNum (s : List Int × Int) (h : Byt s.1) : Byt (rNum s).2.1 := by
  unfold rNum
  split
  · exact h
  · exact byt_numGo _ _ _ _ h
theorem numGo_range (j : Nat) : ∀ (i : Nat) (n : Int) (l : List Int), Byt l → i + j = 9 → 0 ≤ n → n < ((128 ^ i : Nat) : Int) → 0 ≤ (numGo (j + 1) i n l).1 ∧ (numGo (j + 1) i n l).1 < 18446744073709551616 := by
  induction j with
  | zero =>
    intro i n l h hi h0 h1
    obtain rfl : i = 9 := by omega
    have e9 : ((128 ^ 9 : Nat) : Int) = 9223372036854775808 := by decide
    rw [e9] at h1
    cases l with
    | nil => exact z64
    | cons b bs =>
      have hb := h.cons.1
      rw [numGo]
      split
      · exact z64
      · split
        · exact z64
        · split
          · exact z64
          · rw [e9]
            simp only
            omega
  | succ j ih =>
    intro i n l h hi h0 h1
    cases l with
    | nil => exact z64
    | cons b bs =>
      have hb := h.cons.1
      have hp : (0 : Int) < ((128 ^ i : Nat) : Int) := by exact_mod_cast Nat.pos_of_ne_zero (by simp)
      have hle : ((128 ^ (i + 1) : Nat) : Int) ≤ 9223372036854775808 := by
        have : 128 ^ (i + 1) ≤ 128 ^ 9 := Nat.pow_le_pow_right (by decide) (by omega)
        have e9 : (128 ^ 9 : Nat) = 9223372036854775808 := by decide
        omega
      have hsucc : ((128 ^ (i + 1) : Nat) : Int) = ((128 ^ i : Nat) : Int) * 128 := by rw [Nat.pow_succ]; exact Int.natCast_mul _ _
      have h2 : 0 ≤ b % 128 := by omega
      have h3 : b % 128 ≤ 127 := by omega
      have hm0 : 0 ≤ b % 128 * ((128 ^ i : Nat) : Int) := Int.mul_nonneg h2 (by omega)
      have hm1 : b % 128 * ((128 ^ i : Nat) : Int) ≤ 127 * ((128 ^ i : Nat) : Int) := Int.mul_le_mul_of_nonneg_right h3 (by omega)
      rw [numGo]
      split
      · exact z64
      · split
        · exact ih _ _ _ h.cons.2 (by omega) (by omega) (by omega)
        · split
          · exact z64
          · simp only
            omega
theorem rNum_range (s : List Int × Int) (h : Byt s.1) : 0 ≤ (rNum s).1 ∧ (rNum s).1 < 18446744073709551616 := by
  unfold rNum
  split
  · exact z64
  · exact numGo_range 9 0 0 s.1 h (by omega) (by decide) (by decide)
theorem unzig_range (n : Int) (h0 : 0 ≤ n) (h1 : n < 18446744073709551616) : -9223372036854775808 ≤ unzig n ∧ unzig n ≤ 9223372036854775807 := by
  unfold unzig; split <;> omega
end Go.Proofs.Ytalpemoodollpaa.P
/- The state of a decoding: a reader of one's own, the nine fields. -/
namespace Go.Proofs.Ytalpemoodollpaa.P
open Go.RowKit Go.Proofs.YtalpemoodollpaaW.PrintWords Go.Proofs.YtalpemoodollpaaW.PrintLast Go.Proofs.YtalpemoodollpaaW.PrintMore
set_option linter.unusedVariables false
set_option linter.unusedSimpArgs false
structure DS (w W : World) (t b4 g lo : Nat) (s : List Int × Int) (x0 x1 x2 x3 x4 x5 x6 x7 x8 : Int) : Prop where
  rk : RK w W lo g s
  bx : Box9 W t w.heap.size x0 x1 x2 x3 x4 x5 x6 x7 x8
  c4 : W.heap[b4]? = some (.cells #[.pointer (some ⟨g, 0, none⟩)] 78 (0, 0))
  hb : w.heap.size < lo
  h4 : b4 ≠ g
  h5 : b4 ≠ w.heap.size
namespace DS
variable {w W W1 : World} {t b4 g lo : Nat} {s s1 : List Int × Int} {x0 x1 x2 x3 x4 x5 x6 x7 x8 : Int}
theorem step (h : DS w W t b4 g lo s x0 x1 x2 x3 x4 x5 x6 x7 x8) (hk : RK w W1 lo g s1) (kg : KeepG W W1 g) : DS w W1 t b4 g lo s1 x0 x1 x2 x3 x4 x5 x6 x7 x8 :=
  ⟨hk, kg.box h.bx (by have := h.rk.hg; have := h.hb; omega), kg _ _ h.c4 h.h4, h.hb, h.h4, h.h5⟩
theorem below (h : DS w W t b4 g lo s x0 x1 x2 x3 x4 x5 x6 x7 x8) (hb : Below W.heap.size W W1) : DS w W1 t b4 g lo s x0 x1 x2 x3 x4 x5 x6 x7 x8 :=
  ⟨h.rk.below hb, (hb.block _ (blk_lt h.bx)).trans h.bx, (hb.block _ (blk_lt h.c4)).trans h.c4, h.hb, h.h4, h.h5⟩
theorem num (h : DS w W t b4 g lo s x0 x1 x2 x3 x4 x5 x6 x7 x8) : Calls Try.prog 100 #[.pointer (some ⟨g, 0, none⟩)] W fun e w' => e = .returned (.int .u64 (rNum s).1) ∧ DS w w' t b4 g lo (rNum s).2 x0 x1 x2 x3 x4 x5 x6 x7 x8 :=
  h.rk.num.mono fun e w' ⟨he, hk, kg⟩ => ⟨he, h.step hk kg⟩
theorem int (h : DS w W t b4 g lo s x0 x1 x2 x3 x4 x5 x6 x7 x8) : Calls Try.prog 117 #[.pointer (some ⟨g, 0, none⟩)] W fun e w' => e = .returned (.int .i64 (unzig (rUint s 8).1)) ∧ DS w w' t b4 g lo (rUint s 8).2 x0 x1 x2 x3 x4 x5 x6 x7 x8 :=
  h.rk.int.mono fun e w' ⟨he, hk, kg⟩ => ⟨he, h.step hk kg⟩
theorem cell (h : DS w W t b4 g lo s x0 x1 x2 x3 x4 x5 x6 x7 x8) : W.cell? ⟨b4, 0, none⟩ = some (.pointer (some ⟨g, 0, none⟩)) := (blk_cell h.c4 0).trans rfl
theorem set0 (h : DS w W t b4 g lo s x0 x1 x2 x3 x4 x5 x6 x7 x8) (v : Int) : DS w (W.setCell ⟨w.heap.size, 0, none⟩ (.int .i64 v)) t b4 g lo s v x1 x2 x3 x4 x5 x6 x7 x8 :=
  ⟨h.rk.set (Nat.le_refl _) h.hb _, (blk_set h.bx 0 (.int .i64 v)).trans (by simp), (Below.heap_setCell W ⟨w.heap.size, 0, none⟩ _ b4 h.h5).trans h.c4, h.hb, h.h4, h.h5⟩
theorem set1 (h : DS w W t b4 g lo s x0 x1 x2 x3 x4 x5 x6 x7 x8) (v : Int) : DS w (W.setCell ⟨w.heap.size, 1, none⟩ (.int .i64 v)) t b4 g lo s x0 v x2 x3 x4 x5 x6 x7 x8 :=
  ⟨h.rk.set (Nat.le_refl _) h.hb _, (blk_set h.bx 1 (.int .i64 v)).trans (by simp), (Below.heap_setCell W ⟨w.heap.size, 1, none⟩ _ b4 h.h5).trans h.c4, h.hb, h.h4, h.h5⟩
theorem set2 (h : DS w W t b4 g lo s x0 x1 x2 x3 x4 x5 x6 x7 x8) (v : Int) : DS w (W.setCell ⟨w.heap.size, 2, none⟩ (.int .i64 v)) t b4 g lo s x0 x1 v x3 x4 x5 x6 x7 x8 :=
  ⟨h.rk.set (Nat.le_refl _) h.hb _, (blk_set h.bx 2 (.int .i64 v)).trans (by simp), (Below.heap_setCell W ⟨w.heap.size, 2, none⟩ _ b4 h.h5).trans h.c4, h.hb, h.h4, h.h5⟩
theorem set3 (h : DS w W t b4 g lo s x0 x1 x2 x3 x4 x5 x6 x7 x8) (v : Int) : DS w (W.setCell ⟨w.heap.size, 3, none⟩ (.int .i64 v)) t b4 g lo s x0 x1 x2 v x4 x5 x6 x7 x8 :=
  ⟨h.rk.set (Nat.le_refl _) h.hb _, (blk_set h.bx 3 (.int .i64 v)).trans (by simp), (Below.heap_setCell W ⟨w.heap.size, 3, none⟩ _ b4 h.h5).trans h.c4, h.hb, h.h4, h.h5⟩
theorem set4 (h : DS w W t b4 g lo s x0 x1 x2 x3 x4 x5 x6 x7 x8) (v : Int) : DS w (W.setCell ⟨w.heap.size, 4, none⟩ (.int .i64 v)) t b4 g lo s x0 x1 x2 x3 v x5 x6 x7 x8 :=
  ⟨h.rk.set (Nat.le_refl _) h.hb _, (blk_set h.bx 4 (.int .i64 v)).trans (by simp), (Below.heap_setCell W ⟨w.heap.size, 4, none⟩ _ b4 h.h5).trans h.c4, h.hb, h.h4, h.h5⟩
theorem set5 (h : DS w W t b4 g lo s x0 x1 x2 x3 x4 x5 x6 x7 x8) (v : Int) : DS w (W.setCell ⟨w.heap.size, 5, none⟩ (.int .i64 v)) t b4 g lo s x0 x1 x2 x3 x4 v x6 x7 x8 :=
  ⟨h.rk.set (Nat.le_refl _) h.hb _, (blk_set h.bx 5 (.int .i64 v)).trans (by simp), (Below.heap_setCell W ⟨w.heap.size, 5, none⟩ _ b4 h.h5).trans h.c4, h.hb, h.h4, h.h5⟩
theorem set6 (h : DS w W t b4 g lo s x0 x1 x2 x3 x4 x5 x6 x7 x8) (v : Int) : DS w (W.setCell ⟨w.heap.size, 6, none⟩ (.int .i64 v)) t b4 g lo s x0 x1 x2 x3 x4 x5 v x7 x8 :=
  ⟨h.rk.set (Nat.le_refl _) h.hb _, (blk_set h.bx 6 (.int .i64 v)).trans (by simp), (Below.heap_setCell W ⟨w.heap.size, 6, none⟩ _ b4 h.h5).trans h.c4, h.hb, h.h4, h.h5⟩
theorem set7 (h : DS w W t b4 g lo s x0 x1 x2 x3 x4 x5 x6 x7 x8) (v : Int) : DS w (W.setCell ⟨w.heap.size, 7, none⟩ (.int .i64 v)) t b4 g lo s x0 x1 x2 x3 x4 x5 x6 v x8 :=
  ⟨h.rk.set (Nat.le_refl _) h.hb _, (blk_set h.bx 7 (.int .i64 v)).trans (by simp), (Below.heap_setCell W ⟨w.heap.size, 7, none⟩ _ b4 h.h5).trans h.c4, h.hb, h.h4, h.h5⟩
theorem set8 (h : DS w W t b4 g lo s x0 x1 x2 x3 x4 x5 x6 x7 x8) (v : Int) : DS w (W.setCell ⟨w.heap.size, 8, none⟩ (.int .i64 v)) t b4 g lo s x0 x1 x2 x3 x4 x5 x6 x7 v :=
  ⟨h.rk.set (Nat.le_refl _) h.hb _, (blk_set h.bx 8 (.int .i64 v)).trans (by simp), (Below.heap_setCell W ⟨w.heap.size, 8, none⟩ _ b4 h.h5).trans h.c4, h.hb, h.h4, h.h5⟩
theorem frozen (h : DS w W t b4 g lo s x0 x1 x2 x3 x4 x5 x6 x7 x8) : W.frozen? ⟨w.heap.size, 0, none⟩ = false ∧ W.frozen? ⟨w.heap.size, 1, none⟩ = false ∧ W.frozen? ⟨w.heap.size, 2, none⟩ = false ∧ W.frozen? ⟨w.heap.size, 3, none⟩ = false ∧ W.frozen? ⟨w.heap.size, 4, none⟩ = false ∧ W.frozen? ⟨w.heap.size, 5, none⟩ = false ∧ W.frozen? ⟨w.heap.size, 6, none⟩ = false ∧ W.frozen? ⟨w.heap.size, 7, none⟩ = false ∧ W.frozen? ⟨w.heap.size, 8, none⟩ = false :=
  ⟨blk_frozen h.bx 0, blk_frozen h.bx 1, blk_frozen h.bx 2, blk_frozen h.bx 3, blk_frozen h.bx 4, blk_frozen h.bx 5, blk_frozen h.bx 6, blk_frozen h.bx 7, blk_frozen h.bx 8⟩
end DS
end Go.Proofs.Ytalpemoodollpaa.P
-- Printed by hookprint.py (the session's own program, over the kit's print.py): checked by Lean like any text.
namespace Go.Proofs.Ytalpemoodollpaa.P
open Go.RowKit Go.Proofs.YtalpemoodollpaaW.PrintWords Go.Proofs.YtalpemoodollpaaW.PrintLast Go.Proofs.YtalpemoodollpaaW.PrintMore
attribute [local go_sem] max2_int min2_int max_two min_two max_three min_three max_four min_four   -- for this text's walks alone
set_option linter.unusedVariables false
set_option linter.unusedSimpArgs false

/-! ### message_within: function 96 -/
def message_within.l0 : Nat → Int → Int → List Int → Int → Int → Option (Bool)
  | 0, _, _, _, _, _ => none
  | k + 1, x0, x1, x9, x10, x11 => if x11 < x10 then (if 0 ≤ x11 then (if x11 < (x9.length : Int) then (if (rd x9 x11) < x0 then (some false) else (if (rd x9 x11) > x1 then (some false) else (message_within.l0 k x0 x1 x9 x10 (wrap64 (x11 + 1))))) else (none)) else (none)) else (some true)
def message_within.f (k : Nat) (a0 : Int) (a1 : Int) (l2 : List Int) : Option (Bool) := message_within.l0 k a0 a1 l2 (l2.length : Int) 0
theorem message_within.mono_l : ∀ k, (∀ y0 y1 y2 y3 y4, LeO (message_within.l0 k y0 y1 y2 y3 y4) (message_within.l0 (k + 1) y0 y1 y2 y3 y4))
  | 0 => fun _ _ _ _ _ r h => by simp [message_within.l0] at h
  | k + 1 => by
    have ih0 := message_within.mono_l k
    · intro y0 y1 y2 y3 y4
      unfold message_within.l0
      repeat' first
      | (with_reducible exact ih0 _ _ _ _ _)
      | (with_reducible exact LeO.refl _)
      | (with_reducible exact LeO.none _)
      | (with_reducible refine LeO.ite ?_ ?_)
      | (with_reducible refine LeO.bind ?_ (fun _ => ?_))
      | exact ih0 _ _ _ _ _
      | exact LeO.none _
      | refine LeO.ite ?_ ?_
      | refine LeO.bind ?_ (fun _ => ?_)
theorem message_within.mono : ∀ a0 a1 a2 k, LeO (message_within.f k a0 a1 a2) (message_within.f (k + 1) a0 a1 a2) := by
  intro a0 a1 a2 k
  have ih0 := message_within.mono_l k
  unfold message_within.f
  repeat' first
      | (with_reducible exact ih0 _ _ _ _ _)
      | (with_reducible exact LeO.refl _)
      | (with_reducible exact LeO.none _)
      | (with_reducible refine LeO.ite ?_ ?_)
      | (with_reducible refine LeO.bind ?_ (fun _ => ?_))
      | exact ih0 _ _ _ _ _
      | exact LeO.none _
      | refine LeO.ite ?_ ?_
      | refine LeO.bind ?_ (fun _ => ?_)
set_option maxHeartbeats 8000000 in
set_option maxRecDepth 100000 in
theorem message_within.calls (k : Nat) (a0 : Int) (a1 : Int) (A2 : Option Addr) (c2 : Nat) (l2 : List Int) (r : Bool) (w : World) (hr2 : Kd.C (Kd.int .i64) w A2 l2.length l2) (hc2 : l2.length ≤ c2) (h : message_within.f k a0 a1 l2 = some r) :
    Calls Try.prog 96 #[.int .i64 a0, .int .i64 a1, .slice A2 l2.length c2] w fun e w' => e = .returned (.bool r) ∧ Drawn0 w w' := by
  have HR2 := Aside0.mk hr2
  have HC2 := Aside0.mk hc2
  clear hr2 hc2
  have H : (message_within.l0 k a0 a1 l2 (l2.length : Int) 0) = some r := h
  clear h
  have H' := Aside0.mk H
  clear H
  go_enter Try.func96, Try.ntmps96
  go_wp2
  go_loopg [11] k (fun kq v11 w' => ∃ (x11_1 : Int), v11 = .int .i64 x11_1 ∧ Aside0 (message_within.l0 kq a0 a1 l2 (l2.length : Int) x11_1 = some r) ∧ Aside0 (kq ≤ k) ∧ Drawn0 w w')
  case atStart => exact ⟨(0), (by first | rfl | (simp; done) | (simp [*]; done)), H', ⟨Nat.le_refl _⟩, by repeat (first | exact Drawn0.refl _ | apply Drawn0.step)⟩
  case round =>
    clear H'
    try clear c2
    try clear p2
    obtain ⟨x11_1, rfl, HA, HK1, ⟨m1, rfl⟩⟩ := hrel
    cases gk with
    | zero => exact absurd HA.out (by simp [message_within.l0])
    | succ k1 =>
      have H := HA.out
      clear HA
      simp only [message_within.l0] at H
      by_cases c4 : x11_1 < (l2.length : Int)
      · rw [if_pos c4] at H
        have c4b0 : decide (x11_1 < (l2.length : Int)) = true := decide_eq_true c4
        clear c4
        by_cases c5 : 0 ≤ x11_1
        · rw [if_pos c5] at H
          have c5b0 : decide (0 ≤ x11_1) = true := decide_eq_true c5
          clear c5
          by_cases c6 : x11_1 < (l2.length : Int)
          · rw [if_pos c6] at H
            have c6b0 : decide (x11_1 < (l2.length : Int)) = true := decide_eq_true c6
            clear c6
            by_cases c7 : (rd l2 x11_1) < a0
            · rw [if_pos c7] at H
              have c7b0 : decide ((rd l2 x11_1) < a0) = true := decide_eq_true c7
              clear c7
              obtain rfl := Option.some.inj H
              have p102 : 0 ≤ (x11_1 : Int) := of_decide_eq_true (by first | (with_reducible assumption) | assumption)
              have q102 : x11_1 < (l2.length : Int) := of_decide_eq_true (by first | (with_reducible assumption) | assumption)
              obtain ⟨ad102, e102, hx102_0⟩ := Kd.at_int HR2.out x11_1 p102 q102
              cases e102
              replace p102 := eq_true p102
              replace q102 := eq_true q102
              go_wp2
              go_ret
              exact ⟨by first | rfl | (simp; done) | (simp [*]; done), by repeat (first | exact Drawn0.refl _ | apply Drawn0.step)⟩
            · rw [if_neg c7] at H
              have c7b0 : decide ((rd l2 x11_1) < a0) = false := decide_eq_false c7
              clear c7
              by_cases c8 : (rd l2 x11_1) > a1
              · rw [if_pos c8] at H
                have c8b0 : decide (a1 < (rd l2 x11_1)) = true := decide_eq_true c8
                clear c8
                obtain rfl := Option.some.inj H
                have p102 : 0 ≤ (x11_1 : Int) := of_decide_eq_true (by first | (with_reducible assumption) | assumption)
                have q102 : x11_1 < (l2.length : Int) := of_decide_eq_true (by first | (with_reducible assumption) | assumption)
                obtain ⟨ad102, e102, hx102_0⟩ := Kd.at_int HR2.out x11_1 p102 q102
                cases e102
                replace p102 := eq_true p102
                replace q102 := eq_true q102
                go_wp2
                go_ret
                exact ⟨by first | rfl | (simp; done) | (simp [*]; done), by repeat (first | exact Drawn0.refl _ | apply Drawn0.step)⟩
              · rw [if_neg c8] at H
                have c8b0 : decide (a1 < (rd l2 x11_1)) = false := decide_eq_false c8
                clear c8
                have H' := Aside0.mk H
                clear H
                have p102 : 0 ≤ (x11_1 : Int) := of_decide_eq_true (by first | (with_reducible assumption) | assumption)
                have q102 : x11_1 < (l2.length : Int) := of_decide_eq_true (by first | (with_reducible assumption) | assumption)
                obtain ⟨ad102, e102, hx102_0⟩ := Kd.at_int HR2.out x11_1 p102 q102
                cases e102
                replace p102 := eq_true p102
                replace q102 := eq_true q102
                go_wp2
                go_roundg k1
                case measure => have := HK1.out; omega
                case rel => exact ⟨(wrap64 (x11_1 + 1)), (by first | rfl | (simp; done) | (simp [*]; done)), H', ⟨by have := HK1.out; omega⟩, by repeat (first | exact Drawn0.refl _ | apply Drawn0.step)⟩
          · rw [if_neg c6] at H
            exact absurd H (by simp)
        · rw [if_neg c5] at H
          exact absurd H (by simp)
      · rw [if_neg c4] at H
        have c4b0 : decide (x11_1 < (l2.length : Int)) = false := decide_eq_false c4
        clear c4
        obtain rfl := Option.some.inj H
        go_wp2
        go_ret
        exact ⟨by first | rfl | (simp; done) | (simp [*]; done), by repeat (first | exact Drawn0.refl _ | apply Drawn0.step)⟩

end Go.Proofs.Ytalpemoodollpaa.P
-- Printed by hookprint.py (the session's own program, over the kit's print.py): checked by Lean like any text.
namespace Go.Proofs.Ytalpemoodollpaa.P
open Go.RowKit Go.Proofs.YtalpemoodollpaaW.PrintWords Go.Proofs.YtalpemoodollpaaW.PrintLast Go.Proofs.YtalpemoodollpaaW.PrintMore
attribute [local go_sem] max2_int min2_int max_two min_two max_three min_three max_four min_four   -- for this text's walks alone
set_option linter.unusedVariables false
set_option linter.unusedSimpArgs false

/-! ### message_Right: function 32 -/
def message_Right.f (k : Nat) (a0_0 : Int) (a0_1 : Int) (a0_2 : Int) (a0_3 : Int) (a0_4 : Int) (a0_5 : Int) (a0_6 : Int) (a0_7 : Int) (a0_8 : Int) : Option (Bool) := (message_within.f k 1 9 (([a0_0] : List Int))).bind fun t107 => (if t107 = true then ((message_within.f k 0 255 (([a0_1, a0_8] : List Int))).bind fun t111 => (if t111 = true then ((message_within.f k 0 4611686018427387904 (([a0_2, a0_3] : List Int))).bind fun t115 => (if t115 = true then ((message_within.f k (-1) 4611686018427387904 (([a0_4, a0_5] : List Int))).bind fun t119 => (some t119)) else (some false))) else (some false))) else (some false))
theorem message_Right.mono : ∀ a0 a1 a2 a3 a4 a5 a6 a7 a8 k, LeO (message_Right.f k a0 a1 a2 a3 a4 a5 a6 a7 a8) (message_Right.f (k + 1) a0 a1 a2 a3 a4 a5 a6 a7 a8) := by
  intro a0 a1 a2 a3 a4 a5 a6 a7 a8 k
  unfold message_Right.f
  repeat' first
      | (with_reducible exact message_within.mono _ _ _ _)
      | (with_reducible exact LeO.refl _)
      | (with_reducible exact LeO.none _)
      | (with_reducible refine LeO.ite ?_ ?_)
      | (with_reducible refine LeO.bind ?_ (fun _ => ?_))
      | exact message_within.mono _ _ _ _
      | exact LeO.none _
      | refine LeO.ite ?_ ?_
      | refine LeO.bind ?_ (fun _ => ?_)
set_option maxHeartbeats 8000000 in
set_option maxRecDepth 100000 in
theorem message_Right.calls (k : Nat) (a0_0 : Int) (a0_1 : Int) (a0_2 : Int) (a0_3 : Int) (a0_4 : Int) (a0_5 : Int) (a0_6 : Int) (a0_7 : Int) (a0_8 : Int) (r : Bool) (w : World) (h : message_Right.f k a0_0 a0_1 a0_2 a0_3 a0_4 a0_5 a0_6 a0_7 a0_8 = some r) :
    Calls Try.prog 32 #[.agg #[.int .i64 a0_0, .int .i64 a0_1, .int .i64 a0_2, .int .i64 a0_3, .int .i64 a0_4, .int .i64 a0_5, .int .i64 a0_6, .int .i64 a0_7, .int .i64 a0_8]] w fun e w' => e = .returned (.bool r) ∧ Below w.heap.size w w' := by
  have hu29 := Try.underlying29
  have HB := Aside0.mk (Below.refl w.heap.size w)
  have H : ((message_within.f k 1 9 (([a0_0] : List Int))).bind fun t107 => (if t107 = true then ((message_within.f k 0 255 (([a0_1, a0_8] : List Int))).bind fun t111 => (if t111 = true then ((message_within.f k 0 4611686018427387904 (([a0_2, a0_3] : List Int))).bind fun t115 => (if t115 = true then ((message_within.f k (-1) 4611686018427387904 (([a0_4, a0_5] : List Int))).bind fun t119 => (some t119)) else (some false))) else (some false))) else (some false))) = some r := h
  clear h
  obtain ⟨y104, hy104⟩ : ∃ y_ : List Int, y_ = (([a0_0] : List Int)) := ⟨_, rfl⟩
  replace H : ((message_within.f k 1 9 y104).bind fun t107 => (if t107 = true then ((message_within.f k 0 255 (([a0_1, a0_8] : List Int))).bind fun t111 => (if t111 = true then ((message_within.f k 0 4611686018427387904 (([a0_2, a0_3] : List Int))).bind fun t115 => (if t115 = true then ((message_within.f k (-1) 4611686018427387904 (([a0_4, a0_5] : List Int))).bind fun t119 => (some t119)) else (some false))) else (some false))) else (some false))) = some r := by first | (rw [hy104]; with_reducible exact H) | (have H2_ := (Option.bind_some _ _).symm.trans H; rw [hy104]; with_reducible exact H2_) | (have H2_ := (Option.bind_some _ _).symm.trans H; with_reducible exact H2_) | with_reducible exact H | (rw [hy104]; exact H) | exact H
  have Ny104 := Aside0.mk hy104
  clear hy104
  replace H := Option.bind_eq_some_iff.mp H
  obtain ⟨t107, A20, H⟩ := H
  replace H : (if t107 = true then ((message_within.f k 0 255 (([a0_1, a0_8] : List Int))).bind fun t111 => (if t111 = true then ((message_within.f k 0 4611686018427387904 (([a0_2, a0_3] : List Int))).bind fun t115 => (if t115 = true then ((message_within.f k (-1) 4611686018427387904 (([a0_4, a0_5] : List Int))).bind fun t119 => (some t119)) else (some false))) else (some false))) else (some false)) = some r := H
  have A2 := Aside0.mk A20
  clear A20
  by_cases c3 : t107 = true
  · subst c3
    have H1 : ((message_within.f k 0 255 (([a0_1, a0_8] : List Int))).bind fun t111 => (if t111 = true then ((message_within.f k 0 4611686018427387904 (([a0_2, a0_3] : List Int))).bind fun t115 => (if t115 = true then ((message_within.f k (-1) 4611686018427387904 (([a0_4, a0_5] : List Int))).bind fun t119 => (some t119)) else (some false))) else (some false))) = some r := by rw [if_pos rfl] at H; exact H
    clear H
    have H := H1
    clear H1
    obtain ⟨y108, hy108⟩ : ∃ y_ : List Int, y_ = (([a0_1, a0_8] : List Int)) := ⟨_, rfl⟩
    replace H : ((message_within.f k 0 255 y108).bind fun t111 => (if t111 = true then ((message_within.f k 0 4611686018427387904 (([a0_2, a0_3] : List Int))).bind fun t115 => (if t115 = true then ((message_within.f k (-1) 4611686018427387904 (([a0_4, a0_5] : List Int))).bind fun t119 => (some t119)) else (some false))) else (some false))) = some r := by first | (rw [hy108]; with_reducible exact H) | (have H2_ := (Option.bind_some _ _).symm.trans H; rw [hy108]; with_reducible exact H2_) | (have H2_ := (Option.bind_some _ _).symm.trans H; with_reducible exact H2_) | with_reducible exact H | (rw [hy108]; exact H) | exact H
    have Ny108 := Aside0.mk hy108
    clear hy108
    replace H := Option.bind_eq_some_iff.mp H
    obtain ⟨t111, A40, H⟩ := H
    replace H : (if t111 = true then ((message_within.f k 0 4611686018427387904 (([a0_2, a0_3] : List Int))).bind fun t115 => (if t115 = true then ((message_within.f k (-1) 4611686018427387904 (([a0_4, a0_5] : List Int))).bind fun t119 => (some t119)) else (some false))) else (some false)) = some r := H
    have A4 := Aside0.mk A40
    clear A40
    by_cases c5 : t111 = true
    · subst c5
      have H1 : ((message_within.f k 0 4611686018427387904 (([a0_2, a0_3] : List Int))).bind fun t115 => (if t115 = true then ((message_within.f k (-1) 4611686018427387904 (([a0_4, a0_5] : List Int))).bind fun t119 => (some t119)) else (some false))) = some r := by rw [if_pos rfl] at H; exact H
      clear H
      have H := H1
      clear H1
      obtain ⟨y112, hy112⟩ : ∃ y_ : List Int, y_ = (([a0_2, a0_3] : List Int)) := ⟨_, rfl⟩
      replace H : ((message_within.f k 0 4611686018427387904 y112).bind fun t115 => (if t115 = true then ((message_within.f k (-1) 4611686018427387904 (([a0_4, a0_5] : List Int))).bind fun t119 => (some t119)) else (some false))) = some r := by first | (rw [hy112]; with_reducible exact H) | (have H2_ := (Option.bind_some _ _).symm.trans H; rw [hy112]; with_reducible exact H2_) | (have H2_ := (Option.bind_some _ _).symm.trans H; with_reducible exact H2_) | with_reducible exact H | (rw [hy112]; exact H) | exact H
      have Ny112 := Aside0.mk hy112
      clear hy112
      replace H := Option.bind_eq_some_iff.mp H
      obtain ⟨t115, A60, H⟩ := H
      replace H : (if t115 = true then ((message_within.f k (-1) 4611686018427387904 (([a0_4, a0_5] : List Int))).bind fun t119 => (some t119)) else (some false)) = some r := H
      have A6 := Aside0.mk A60
      clear A60
      by_cases c7 : t115 = true
      · subst c7
        have H1 : ((message_within.f k (-1) 4611686018427387904 (([a0_4, a0_5] : List Int))).bind fun t119 => (some t119)) = some r := by rw [if_pos rfl] at H; exact H
        clear H
        have H := H1
        clear H1
        obtain ⟨y116, hy116⟩ : ∃ y_ : List Int, y_ = (([a0_4, a0_5] : List Int)) := ⟨_, rfl⟩
        replace H : ((message_within.f k (-1) 4611686018427387904 y116).bind fun t119 => (some t119)) = some r := by first | (rw [hy116]; with_reducible exact H) | (have H2_ := (Option.bind_some _ _).symm.trans H; rw [hy116]; with_reducible exact H2_) | (have H2_ := (Option.bind_some _ _).symm.trans H; with_reducible exact H2_) | with_reducible exact H | (rw [hy116]; exact H) | exact H
        have Ny116 := Aside0.mk hy116
        clear hy116
        replace H := Option.bind_eq_some_iff.mp H
        obtain ⟨t119, A80, H⟩ := H
        replace H : (some t119) = some r := H
        have A8 := Aside0.mk A80
        clear A80
        obtain rfl := Option.some.inj H
        go_enter Try.func32, Try.ntmps32
        go_wp2_with (first | ((with_reducible refine gate_dst (N := 1) rfl ?_); (try (refine gate_guard (by rfl) ?_; dsimp only)); refine box_event ?hg (N := 1) ?hd (cs := #[.int .i64 a0_0, .int .i64 a0_1, .int .i64 a0_2, .int .i64 a0_3, .int .i64 a0_4, .int .i64 a0_5, .int .i64 a0_6, .int .i64 a0_7, .int .i64 a0_8]) (t := 29) ?hr ?_; (case hd => rfl); (case hg => rfl); (case hr => first | (go_simp; done) | (go_simp; rfl)); intro gb103 hg w9 hbox hb; have n0_ := Aside0.mk (below_step (by repeat (first | (with_reducible first | exact HB.out | apply below_alloc | apply pw_below_drewN | apply below_drew1) | exact HB.out)) hb); have n1_ := Aside0.mk (hbox); have n2_ := Aside0.mk ((by rw [hg]; exact (below_size (by repeat (first | (with_reducible first | exact HB.out | apply below_alloc | apply pw_below_drewN | apply below_drew1) | exact HB.out))) : w.heap.size ≤ gb103)); have n3_ := Aside0.mk ((by rw [hg]; exact (below_size (by repeat (first | (with_reducible first | exact HB.out | apply below_alloc | apply pw_below_drewN | apply below_drew1) | exact HB.out))) : w.heap.size ≤ gb103)); clear HB; have HB := n0_; have BK103 := n1_; have GW103 := n2_; have GE103 := n3_; clear n0_ n1_ n2_ n3_; clear hb hbox hg; have hcz10_0 : w9.cell? ⟨gb103, 0, none⟩ = some (.int .i64 a0_0) := (blk_cell BK103.out 0).trans rfl; have hcz10_1 : w9.cell? ⟨gb103, 1, none⟩ = some (.int .i64 a0_1) := (blk_cell BK103.out 1).trans rfl; have hcz10_2 : w9.cell? ⟨gb103, 2, none⟩ = some (.int .i64 a0_2) := (blk_cell BK103.out 2).trans rfl; have hcz10_3 : w9.cell? ⟨gb103, 3, none⟩ = some (.int .i64 a0_3) := (blk_cell BK103.out 3).trans rfl; have hcz10_4 : w9.cell? ⟨gb103, 4, none⟩ = some (.int .i64 a0_4) := (blk_cell BK103.out 4).trans rfl; have hcz10_5 : w9.cell? ⟨gb103, 5, none⟩ = some (.int .i64 a0_5) := (blk_cell BK103.out 5).trans rfl; have hcz10_6 : w9.cell? ⟨gb103, 6, none⟩ = some (.int .i64 a0_6) := (blk_cell BK103.out 6).trans rfl; have hcz10_7 : w9.cell? ⟨gb103, 7, none⟩ = some (.int .i64 a0_7) := (blk_cell BK103.out 7).trans rfl; have hcz10_8 : w9.cell? ⟨gb103, 8, none⟩ = some (.int .i64 a0_8) := (blk_cell BK103.out 8).trans rfl; have hfz10_0 := blk_frozen BK103.out 0; have hfz10_1 := blk_frozen BK103.out 1; have hfz10_2 := blk_frozen BK103.out 2; have hfz10_3 := blk_frozen BK103.out 3; have hfz10_4 := blk_frozen BK103.out 4; have hfz10_5 := blk_frozen BK103.out 5; have hfz10_6 := blk_frozen BK103.out 6; have hfz10_7 := blk_frozen BK103.out 7; have hfz10_8 := blk_frozen BK103.out 8) | ((with_reducible refine gate_dst (N := 5) rfl ?_); (try (refine gate_guard (by rfl) ?_; dsimp only)); refine Kd.R_lit (Kd.int .i64) _ 2 ?hg (N := 5) ?hd (xs := ([a0_0] : List Int)) (inner := [.int .i64 a0_0]) (ok := fun _ => True) (okp := fun _ => True) ?hr ?hp (fun _ hk => hk) trivial (Below.refl _ _) (Nat.le_refl _) (by simp) ?_; (case hd => rfl); (case hg => rfl); (case hr => first | (go_simp; done) | (go_simp; rfl)); (case hp => exact (Reps.one (show Kd.M (Kd.int .i64) _ _ _ a0_0 [.int .i64 a0_0] from rfl) (Reps.none _ _))); intro v105 w11 ho12 hb hg_ hnew_; clear hg_ hnew_; (first | rw [← Ny104.out] at ho12 | (simp only [Int.reduceToNat] at ho12; rw [← Ny104.out] at ho12)); have n0_ := Aside0.mk (Kd.R_lower ho12 (below_size (by repeat (first | (with_reducible first | exact HB.out | apply below_alloc | apply pw_below_drewN | apply below_drew1 | refine below_set ?_ GE103.out) | exact HB.out)))); have n1_ := Aside0.mk (blk_below (g := gb103) (o := .cells #[.int .i64 a0_0, .int .i64 a0_1, .int .i64 a0_2, .int .i64 a0_3, .int .i64 a0_4, .int .i64 a0_5, .int .i64 a0_6, .int .i64 a0_7, .int .i64 a0_8] 29 (0, 0)) (by (with_reducible repeat (first | refine blk_drewN ?_ _ | refine blk_drew ?_ | refine blk_alloc ?_ _)); exact BK103.out) hb); have n2_ := Aside0.mk (below_step (by repeat (first | (with_reducible first | exact HB.out | apply below_alloc | apply pw_below_drewN | apply below_drew1 | refine below_set ?_ GE103.out) | exact HB.out)) hb); clear BK103; clear HB; have HO106 := n0_; have BK103 := n1_; have HB := n2_; clear n0_ n1_ n2_; clear hb ho12; obtain ⟨Ao13, co13, eo13⟩ := Kd.R_slice HO106.out; subst eo13) | ((with_reducible refine gate_callee (f := 96) rfl ?_); refine goesL_ (some 6) rfl rfl Try.func96 (by kernel_rfl) rfl #[.int .i64 1, .int .i64 9, .slice Ao13 y104.length co13] rfl (by (try simp only [List.map_toArray, List.map_cons, List.map_nil]); first | done | rfl | (simp only [List.length_drop, List.length_take]; rfl)) ?_; (with_reducible refine (message_within.calls k 1 9 _ _ y104 true _ ?side1 ?side2 A2.out).mono ?_); (case side1 => repeat (first | exact (Kd.R_reads' HO106.out).2.2 | (with_reducible refine Kd.C_alloc ?_ _) | (with_reducible refine Kd.C_drewN ?_ _) | (with_reducible refine Kd.C_drew ?_))); (case side2 => exact (Kd.R_reads' HO106.out).2.1); rintro e w' ⟨rfl, ⟨nd, rfl⟩⟩; refine ⟨_, rfl, ?_⟩; have hcz14_0 : w11.cell? ⟨gb103, 0, none⟩ = some (.int .i64 a0_0) := (blk_cell BK103.out 0).trans rfl; have hcz14_1 : w11.cell? ⟨gb103, 1, none⟩ = some (.int .i64 a0_1) := (blk_cell BK103.out 1).trans rfl; have hcz14_2 : w11.cell? ⟨gb103, 2, none⟩ = some (.int .i64 a0_2) := (blk_cell BK103.out 2).trans rfl; have hcz14_3 : w11.cell? ⟨gb103, 3, none⟩ = some (.int .i64 a0_3) := (blk_cell BK103.out 3).trans rfl; have hcz14_4 : w11.cell? ⟨gb103, 4, none⟩ = some (.int .i64 a0_4) := (blk_cell BK103.out 4).trans rfl; have hcz14_5 : w11.cell? ⟨gb103, 5, none⟩ = some (.int .i64 a0_5) := (blk_cell BK103.out 5).trans rfl; have hcz14_6 : w11.cell? ⟨gb103, 6, none⟩ = some (.int .i64 a0_6) := (blk_cell BK103.out 6).trans rfl; have hcz14_7 : w11.cell? ⟨gb103, 7, none⟩ = some (.int .i64 a0_7) := (blk_cell BK103.out 7).trans rfl; have hcz14_8 : w11.cell? ⟨gb103, 8, none⟩ = some (.int .i64 a0_8) := (blk_cell BK103.out 8).trans rfl; have hfz14_0 := blk_frozen BK103.out 0; have hfz14_1 := blk_frozen BK103.out 1; have hfz14_2 := blk_frozen BK103.out 2; have hfz14_3 := blk_frozen BK103.out 3; have hfz14_4 := blk_frozen BK103.out 4; have hfz14_5 := blk_frozen BK103.out 5; have hfz14_6 := blk_frozen BK103.out 6; have hfz14_7 := blk_frozen BK103.out 7; have hfz14_8 := blk_frozen BK103.out 8) | ((with_reducible refine gate_dst (N := 12) rfl ?_); (try (refine gate_guard (by rfl) ?_; dsimp only)); refine Kd.R_lit (Kd.int .i64) _ 2 ?hg (N := 12) ?hd (xs := ([a0_1, a0_8] : List Int)) (inner := [.int .i64 a0_1, .int .i64 a0_8]) (ok := fun _ => True) (okp := fun _ => True) ?hr ?hp (fun _ hk => hk) trivial (Below.refl _ _) (Nat.le_refl _) (by simp) ?_; (case hd => rfl); (case hg => rfl); (case hr => first | (go_simp; done) | (go_simp; rfl)); (case hp => exact (Reps.one (show Kd.M (Kd.int .i64) _ _ _ a0_1 [.int .i64 a0_1] from rfl) (Reps.one (show Kd.M (Kd.int .i64) _ _ _ a0_8 [.int .i64 a0_8] from rfl) (Reps.none _ _)))); intro v109 w15 ho16 hb hg_ hnew_; clear hg_ hnew_; (first | rw [← Ny108.out] at ho16 | (simp only [Int.reduceToNat] at ho16; rw [← Ny108.out] at ho16)); have n0_ := Aside0.mk (Kd.R_elder' (by (with_reducible repeat (first | apply Kd.R_alloc | apply Kd.R_drewN | apply Kd.R_drew)); exact HO106.out) (Kd.R_base ho16) hb); have n1_ := Aside0.mk (Kd.R_lower (Kd.R_new' ho16 (Kd.R_lt (by (with_reducible repeat (first | apply Kd.R_alloc | apply Kd.R_drewN | apply Kd.R_drew)); exact HO106.out))) (below_size (by repeat (first | (with_reducible first | exact HB.out | apply below_alloc | apply pw_below_drewN | apply below_drew1 | refine below_set ?_ GE103.out) | exact HB.out)))); have n2_ := Aside0.mk (blk_below (g := gb103) (o := .cells #[.int .i64 a0_0, .int .i64 a0_1, .int .i64 a0_2, .int .i64 a0_3, .int .i64 a0_4, .int .i64 a0_5, .int .i64 a0_6, .int .i64 a0_7, .int .i64 a0_8] 29 (0, 0)) (by (with_reducible repeat (first | refine blk_drewN ?_ _ | refine blk_drew ?_ | refine blk_alloc ?_ _)); exact BK103.out) hb); have n3_ := Aside0.mk (below_step (by repeat (first | (with_reducible first | exact HB.out | apply below_alloc | apply pw_below_drewN | apply below_drew1 | refine below_set ?_ GE103.out) | exact HB.out)) hb); clear HO106; clear BK103; clear HB; have HO106 := n0_; have HO110 := n1_; have BK103 := n2_; have HB := n3_; clear n0_ n1_ n2_ n3_; clear hb ho16; obtain ⟨Ao17, co17, eo17⟩ := Kd.R_slice HO110.out; subst eo17) | (go_at_call 96; (with_reducible refine (message_within.calls k 0 255 _ _ y108 true _ ?side1 ?side2 A4.out).mono ?_); (case side1 => repeat (first | exact (Kd.R_reads' HO110.out).2.2 | (with_reducible refine Kd.C_alloc ?_ _) | (with_reducible refine Kd.C_drewN ?_ _) | (with_reducible refine Kd.C_drew ?_))); (case side2 => exact (Kd.R_reads' HO110.out).2.1); rintro e w' ⟨rfl, ⟨nd, rfl⟩⟩; have hcz18_0 : w15.cell? ⟨gb103, 0, none⟩ = some (.int .i64 a0_0) := (blk_cell BK103.out 0).trans rfl; have hcz18_1 : w15.cell? ⟨gb103, 1, none⟩ = some (.int .i64 a0_1) := (blk_cell BK103.out 1).trans rfl; have hcz18_2 : w15.cell? ⟨gb103, 2, none⟩ = some (.int .i64 a0_2) := (blk_cell BK103.out 2).trans rfl; have hcz18_3 : w15.cell? ⟨gb103, 3, none⟩ = some (.int .i64 a0_3) := (blk_cell BK103.out 3).trans rfl; have hcz18_4 : w15.cell? ⟨gb103, 4, none⟩ = some (.int .i64 a0_4) := (blk_cell BK103.out 4).trans rfl; have hcz18_5 : w15.cell? ⟨gb103, 5, none⟩ = some (.int .i64 a0_5) := (blk_cell BK103.out 5).trans rfl; have hcz18_6 : w15.cell? ⟨gb103, 6, none⟩ = some (.int .i64 a0_6) := (blk_cell BK103.out 6).trans rfl; have hcz18_7 : w15.cell? ⟨gb103, 7, none⟩ = some (.int .i64 a0_7) := (blk_cell BK103.out 7).trans rfl; have hcz18_8 : w15.cell? ⟨gb103, 8, none⟩ = some (.int .i64 a0_8) := (blk_cell BK103.out 8).trans rfl; have hfz18_0 := blk_frozen BK103.out 0; have hfz18_1 := blk_frozen BK103.out 1; have hfz18_2 := blk_frozen BK103.out 2; have hfz18_3 := blk_frozen BK103.out 3; have hfz18_4 := blk_frozen BK103.out 4; have hfz18_5 := blk_frozen BK103.out 5; have hfz18_6 := blk_frozen BK103.out 6; have hfz18_7 := blk_frozen BK103.out 7; have hfz18_8 := blk_frozen BK103.out 8) | ((with_reducible refine gate_dst (N := 20) rfl ?_); (try (refine gate_guard (by rfl) ?_; dsimp only)); refine Kd.R_lit (Kd.int .i64) _ 2 ?hg (N := 20) ?hd (xs := ([a0_2, a0_3] : List Int)) (inner := [.int .i64 a0_2, .int .i64 a0_3]) (ok := fun _ => True) (okp := fun _ => True) ?hr ?hp (fun _ hk => hk) trivial (Below.refl _ _) (Nat.le_refl _) (by simp) ?_; (case hd => rfl); (case hg => rfl); (case hr => first | (go_simp; done) | (go_simp; rfl)); (case hp => exact (Reps.one (show Kd.M (Kd.int .i64) _ _ _ a0_2 [.int .i64 a0_2] from rfl) (Reps.one (show Kd.M (Kd.int .i64) _ _ _ a0_3 [.int .i64 a0_3] from rfl) (Reps.none _ _)))); intro v113 w19 ho20 hb hg_ hnew_; clear hg_ hnew_; (first | rw [← Ny112.out] at ho20 | (simp only [Int.reduceToNat] at ho20; rw [← Ny112.out] at ho20)); have n0_ := Aside0.mk (Kd.R_elder' (by (with_reducible repeat (first | apply Kd.R_alloc | apply Kd.R_drewN | apply Kd.R_drew)); exact HO106.out) (Kd.R_base ho20) hb); have n1_ := Aside0.mk (Kd.R_elder' (by (with_reducible repeat (first | apply Kd.R_alloc | apply Kd.R_drewN | apply Kd.R_drew)); exact HO110.out) (Kd.R_base ho20) hb); have n2_ := Aside0.mk (Kd.R_lower (Kd.R_new' (Kd.R_new' ho20 (Kd.R_lt (by (with_reducible repeat (first | apply Kd.R_alloc | apply Kd.R_drewN | apply Kd.R_drew)); exact HO106.out))) (Kd.R_lt (by (with_reducible repeat (first | apply Kd.R_alloc | apply Kd.R_drewN | apply Kd.R_drew)); exact HO110.out))) (below_size (by repeat (first | (with_reducible first | exact HB.out | apply below_alloc | apply pw_below_drewN | apply below_drew1 | refine below_set ?_ GE103.out) | exact HB.out)))); have n3_ := Aside0.mk (blk_below (g := gb103) (o := .cells #[.int .i64 a0_0, .int .i64 a0_1, .int .i64 a0_2, .int .i64 a0_3, .int .i64 a0_4, .int .i64 a0_5, .int .i64 a0_6, .int .i64 a0_7, .int .i64 a0_8] 29 (0, 0)) (by (with_reducible repeat (first | refine blk_drewN ?_ _ | refine blk_drew ?_ | refine blk_alloc ?_ _)); exact BK103.out) hb); have n4_ := Aside0.mk (below_step (by repeat (first | (with_reducible first | exact HB.out | apply below_alloc | apply pw_below_drewN | apply below_drew1 | refine below_set ?_ GE103.out) | exact HB.out)) hb); clear HO106; clear HO110; clear BK103; clear HB; have HO106 := n0_; have HO110 := n1_; have HO114 := n2_; have BK103 := n3_; have HB := n4_; clear n0_ n1_ n2_ n3_ n4_; clear hb ho20; obtain ⟨Ao21, co21, eo21⟩ := Kd.R_slice HO114.out; subst eo21) | (go_at_call 96; (with_reducible refine (message_within.calls k 0 4611686018427387904 _ _ y112 true _ ?side1 ?side2 A6.out).mono ?_); (case side1 => repeat (first | exact (Kd.R_reads' HO114.out).2.2 | (with_reducible refine Kd.C_alloc ?_ _) | (with_reducible refine Kd.C_drewN ?_ _) | (with_reducible refine Kd.C_drew ?_))); (case side2 => exact (Kd.R_reads' HO114.out).2.1); rintro e w' ⟨rfl, ⟨nd, rfl⟩⟩; have hcz22_0 : w19.cell? ⟨gb103, 0, none⟩ = some (.int .i64 a0_0) := (blk_cell BK103.out 0).trans rfl; have hcz22_1 : w19.cell? ⟨gb103, 1, none⟩ = some (.int .i64 a0_1) := (blk_cell BK103.out 1).trans rfl; have hcz22_2 : w19.cell? ⟨gb103, 2, none⟩ = some (.int .i64 a0_2) := (blk_cell BK103.out 2).trans rfl; have hcz22_3 : w19.cell? ⟨gb103, 3, none⟩ = some (.int .i64 a0_3) := (blk_cell BK103.out 3).trans rfl; have hcz22_4 : w19.cell? ⟨gb103, 4, none⟩ = some (.int .i64 a0_4) := (blk_cell BK103.out 4).trans rfl; have hcz22_5 : w19.cell? ⟨gb103, 5, none⟩ = some (.int .i64 a0_5) := (blk_cell BK103.out 5).trans rfl; have hcz22_6 : w19.cell? ⟨gb103, 6, none⟩ = some (.int .i64 a0_6) := (blk_cell BK103.out 6).trans rfl; have hcz22_7 : w19.cell? ⟨gb103, 7, none⟩ = some (.int .i64 a0_7) := (blk_cell BK103.out 7).trans rfl; have hcz22_8 : w19.cell? ⟨gb103, 8, none⟩ = some (.int .i64 a0_8) := (blk_cell BK103.out 8).trans rfl; have hfz22_0 := blk_frozen BK103.out 0; have hfz22_1 := blk_frozen BK103.out 1; have hfz22_2 := blk_frozen BK103.out 2; have hfz22_3 := blk_frozen BK103.out 3; have hfz22_4 := blk_frozen BK103.out 4; have hfz22_5 := blk_frozen BK103.out 5; have hfz22_6 := blk_frozen BK103.out 6; have hfz22_7 := blk_frozen BK103.out 7; have hfz22_8 := blk_frozen BK103.out 8) | ((with_reducible refine gate_dst (N := 28) rfl ?_); (try (refine gate_guard (by rfl) ?_; dsimp only)); refine Kd.R_lit (Kd.int .i64) _ 2 ?hg (N := 28) ?hd (xs := ([a0_4, a0_5] : List Int)) (inner := [.int .i64 a0_4, .int .i64 a0_5]) (ok := fun _ => True) (okp := fun _ => True) ?hr ?hp (fun _ hk => hk) trivial (Below.refl _ _) (Nat.le_refl _) (by simp) ?_; (case hd => rfl); (case hg => rfl); (case hr => first | (go_simp; done) | (go_simp; rfl)); (case hp => exact (Reps.one (show Kd.M (Kd.int .i64) _ _ _ a0_4 [.int .i64 a0_4] from rfl) (Reps.one (show Kd.M (Kd.int .i64) _ _ _ a0_5 [.int .i64 a0_5] from rfl) (Reps.none _ _)))); intro v117 w23 ho24 hb hg_ hnew_; clear hg_ hnew_; (first | rw [← Ny116.out] at ho24 | (simp only [Int.reduceToNat] at ho24; rw [← Ny116.out] at ho24)); have n0_ := Aside0.mk (Kd.R_elder' (by (with_reducible repeat (first | apply Kd.R_alloc | apply Kd.R_drewN | apply Kd.R_drew)); exact HO106.out) (Kd.R_base ho24) hb); have n1_ := Aside0.mk (Kd.R_elder' (by (with_reducible repeat (first | apply Kd.R_alloc | apply Kd.R_drewN | apply Kd.R_drew)); exact HO110.out) (Kd.R_base ho24) hb); have n2_ := Aside0.mk (Kd.R_elder' (by (with_reducible repeat (first | apply Kd.R_alloc | apply Kd.R_drewN | apply Kd.R_drew)); exact HO114.out) (Kd.R_base ho24) hb); have n3_ := Aside0.mk (Kd.R_lower (Kd.R_new' (Kd.R_new' (Kd.R_new' ho24 (Kd.R_lt (by (with_reducible repeat (first | apply Kd.R_alloc | apply Kd.R_drewN | apply Kd.R_drew)); exact HO106.out))) (Kd.R_lt (by (with_reducible repeat (first | apply Kd.R_alloc | apply Kd.R_drewN | apply Kd.R_drew)); exact HO110.out))) (Kd.R_lt (by (with_reducible repeat (first | apply Kd.R_alloc | apply Kd.R_drewN | apply Kd.R_drew)); exact HO114.out))) (below_size (by repeat (first | (with_reducible first | exact HB.out | apply below_alloc | apply pw_below_drewN | apply below_drew1 | refine below_set ?_ GE103.out) | exact HB.out)))); have n4_ := Aside0.mk (blk_below (g := gb103) (o := .cells #[.int .i64 a0_0, .int .i64 a0_1, .int .i64 a0_2, .int .i64 a0_3, .int .i64 a0_4, .int .i64 a0_5, .int .i64 a0_6, .int .i64 a0_7, .int .i64 a0_8] 29 (0, 0)) (by (with_reducible repeat (first | refine blk_drewN ?_ _ | refine blk_drew ?_ | refine blk_alloc ?_ _)); exact BK103.out) hb); have n5_ := Aside0.mk (below_step (by repeat (first | (with_reducible first | exact HB.out | apply below_alloc | apply pw_below_drewN | apply below_drew1 | refine below_set ?_ GE103.out) | exact HB.out)) hb); clear HO106; clear HO110; clear HO114; clear BK103; clear HB; have HO106 := n0_; have HO110 := n1_; have HO114 := n2_; have HO118 := n3_; have BK103 := n4_; have HB := n5_; clear n0_ n1_ n2_ n3_ n4_ n5_; clear hb ho24; obtain ⟨Ao25, co25, eo25⟩ := Kd.R_slice HO118.out; subst eo25) | (go_at_call 96; (with_reducible refine (message_within.calls k (-1) 4611686018427387904 _ _ y116 t119 _ ?side1 ?side2 A8.out).mono ?_); (case side1 => repeat (first | exact (Kd.R_reads' HO118.out).2.2 | (with_reducible refine Kd.C_alloc ?_ _) | (with_reducible refine Kd.C_drewN ?_ _) | (with_reducible refine Kd.C_drew ?_))); (case side2 => exact (Kd.R_reads' HO118.out).2.1); rintro e w' ⟨rfl, ⟨nd, rfl⟩⟩))
        go_ret
        exact ⟨by first | rfl | (simp [errW_none, errW_some] <;> rfl) | (simp [*, errW_none, errW_some] <;> rfl), by repeat (first | (with_reducible first | exact HB.out | apply below_alloc | apply pw_below_drewN | apply below_drew1 | refine below_set ?_ GE103.out) | exact HB.out)⟩
      · replace c7 := Bool.eq_false_iff.mpr c7
        subst c7
        have H1 : (some false) = some r := by rw [if_neg (show ¬ (false = true) by decide)] at H; exact H
        clear H
        have H := H1
        clear H1
        obtain rfl := Option.some.inj H
        go_enter Try.func32, Try.ntmps32
        go_wp2_with (first | ((with_reducible refine gate_dst (N := 1) rfl ?_); (try (refine gate_guard (by rfl) ?_; dsimp only)); refine box_event ?hg (N := 1) ?hd (cs := #[.int .i64 a0_0, .int .i64 a0_1, .int .i64 a0_2, .int .i64 a0_3, .int .i64 a0_4, .int .i64 a0_5, .int .i64 a0_6, .int .i64 a0_7, .int .i64 a0_8]) (t := 29) ?hr ?_; (case hd => rfl); (case hg => rfl); (case hr => first | (go_simp; done) | (go_simp; rfl)); intro gb103 hg w26 hbox hb; have n0_ := Aside0.mk (below_step (by repeat (first | (with_reducible first | exact HB.out | apply below_alloc | apply pw_below_drewN | apply below_drew1) | exact HB.out)) hb); have n1_ := Aside0.mk (hbox); have n2_ := Aside0.mk ((by rw [hg]; exact (below_size (by repeat (first | (with_reducible first | exact HB.out | apply below_alloc | apply pw_below_drewN | apply below_drew1) | exact HB.out))) : w.heap.size ≤ gb103)); have n3_ := Aside0.mk ((by rw [hg]; exact (below_size (by repeat (first | (with_reducible first | exact HB.out | apply below_alloc | apply pw_below_drewN | apply below_drew1) | exact HB.out))) : w.heap.size ≤ gb103)); clear HB; have HB := n0_; have BK103 := n1_; have GW103 := n2_; have GE103 := n3_; clear n0_ n1_ n2_ n3_; clear hb hbox hg; have hcz27_0 : w26.cell? ⟨gb103, 0, none⟩ = some (.int .i64 a0_0) := (blk_cell BK103.out 0).trans rfl; have hcz27_1 : w26.cell? ⟨gb103, 1, none⟩ = some (.int .i64 a0_1) := (blk_cell BK103.out 1).trans rfl; have hcz27_2 : w26.cell? ⟨gb103, 2, none⟩ = some (.int .i64 a0_2) := (blk_cell BK103.out 2).trans rfl; have hcz27_3 : w26.cell? ⟨gb103, 3, none⟩ = some (.int .i64 a0_3) := (blk_cell BK103.out 3).trans rfl; have hcz27_4 : w26.cell? ⟨gb103, 4, none⟩ = some (.int .i64 a0_4) := (blk_cell BK103.out 4).trans rfl; have hcz27_5 : w26.cell? ⟨gb103, 5, none⟩ = some (.int .i64 a0_5) := (blk_cell BK103.out 5).trans rfl; have hcz27_6 : w26.cell? ⟨gb103, 6, none⟩ = some (.int .i64 a0_6) := (blk_cell BK103.out 6).trans rfl; have hcz27_7 : w26.cell? ⟨gb103, 7, none⟩ = some (.int .i64 a0_7) := (blk_cell BK103.out 7).trans rfl; have hcz27_8 : w26.cell? ⟨gb103, 8, none⟩ = some (.int .i64 a0_8) := (blk_cell BK103.out 8).trans rfl; have hfz27_0 := blk_frozen BK103.out 0; have hfz27_1 := blk_frozen BK103.out 1; have hfz27_2 := blk_frozen BK103.out 2; have hfz27_3 := blk_frozen BK103.out 3; have hfz27_4 := blk_frozen BK103.out 4; have hfz27_5 := blk_frozen BK103.out 5; have hfz27_6 := blk_frozen BK103.out 6; have hfz27_7 := blk_frozen BK103.out 7; have hfz27_8 := blk_frozen BK103.out 8) | ((with_reducible refine gate_dst (N := 5) rfl ?_); (try (refine gate_guard (by rfl) ?_; dsimp only)); refine Kd.R_lit (Kd.int .i64) _ 2 ?hg (N := 5) ?hd (xs := ([a0_0] : List Int)) (inner := [.int .i64 a0_0]) (ok := fun _ => True) (okp := fun _ => True) ?hr ?hp (fun _ hk => hk) trivial (Below.refl _ _) (Nat.le_refl _) (by simp) ?_; (case hd => rfl); (case hg => rfl); (case hr => first | (go_simp; done) | (go_simp; rfl)); (case hp => exact (Reps.one (show Kd.M (Kd.int .i64) _ _ _ a0_0 [.int .i64 a0_0] from rfl) (Reps.none _ _))); intro v105 w28 ho29 hb hg_ hnew_; clear hg_ hnew_; (first | rw [← Ny104.out] at ho29 | (simp only [Int.reduceToNat] at ho29; rw [← Ny104.out] at ho29)); have n0_ := Aside0.mk (Kd.R_lower ho29 (below_size (by repeat (first | (with_reducible first | exact HB.out | apply below_alloc | apply pw_below_drewN | apply below_drew1 | refine below_set ?_ GE103.out) | exact HB.out)))); have n1_ := Aside0.mk (blk_below (g := gb103) (o := .cells #[.int .i64 a0_0, .int .i64 a0_1, .int .i64 a0_2, .int .i64 a0_3, .int .i64 a0_4, .int .i64 a0_5, .int .i64 a0_6, .int .i64 a0_7, .int .i64 a0_8] 29 (0, 0)) (by (with_reducible repeat (first | refine blk_drewN ?_ _ | refine blk_drew ?_ | refine blk_alloc ?_ _)); exact BK103.out) hb); have n2_ := Aside0.mk (below_step (by repeat (first | (with_reducible first | exact HB.out | apply below_alloc | apply pw_below_drewN | apply below_drew1 | refine below_set ?_ GE103.out) | exact HB.out)) hb); clear BK103; clear HB; have HO106 := n0_; have BK103 := n1_; have HB := n2_; clear n0_ n1_ n2_; clear hb ho29; obtain ⟨Ao30, co30, eo30⟩ := Kd.R_slice HO106.out; subst eo30) | ((with_reducible refine gate_callee (f := 96) rfl ?_); refine goesL_ (some 6) rfl rfl Try.func96 (by kernel_rfl) rfl #[.int .i64 1, .int .i64 9, .slice Ao30 y104.length co30] rfl (by (try simp only [List.map_toArray, List.map_cons, List.map_nil]); first | done | rfl | (simp only [List.length_drop, List.length_take]; rfl)) ?_; (with_reducible refine (message_within.calls k 1 9 _ _ y104 true _ ?side1 ?side2 A2.out).mono ?_); (case side1 => repeat (first | exact (Kd.R_reads' HO106.out).2.2 | (with_reducible refine Kd.C_alloc ?_ _) | (with_reducible refine Kd.C_drewN ?_ _) | (with_reducible refine Kd.C_drew ?_))); (case side2 => exact (Kd.R_reads' HO106.out).2.1); rintro e w' ⟨rfl, ⟨nd, rfl⟩⟩; refine ⟨_, rfl, ?_⟩; have hcz31_0 : w28.cell? ⟨gb103, 0, none⟩ = some (.int .i64 a0_0) := (blk_cell BK103.out 0).trans rfl; have hcz31_1 : w28.cell? ⟨gb103, 1, none⟩ = some (.int .i64 a0_1) := (blk_cell BK103.out 1).trans rfl; have hcz31_2 : w28.cell? ⟨gb103, 2, none⟩ = some (.int .i64 a0_2) := (blk_cell BK103.out 2).trans rfl; have hcz31_3 : w28.cell? ⟨gb103, 3, none⟩ = some (.int .i64 a0_3) := (blk_cell BK103.out 3).trans rfl; have hcz31_4 : w28.cell? ⟨gb103, 4, none⟩ = some (.int .i64 a0_4) := (blk_cell BK103.out 4).trans rfl; have hcz31_5 : w28.cell? ⟨gb103, 5, none⟩ = some (.int .i64 a0_5) := (blk_cell BK103.out 5).trans rfl; have hcz31_6 : w28.cell? ⟨gb103, 6, none⟩ = some (.int .i64 a0_6) := (blk_cell BK103.out 6).trans rfl; have hcz31_7 : w28.cell? ⟨gb103, 7, none⟩ = some (.int .i64 a0_7) := (blk_cell BK103.out 7).trans rfl; have hcz31_8 : w28.cell? ⟨gb103, 8, none⟩ = some (.int .i64 a0_8) := (blk_cell BK103.out 8).trans rfl; have hfz31_0 := blk_frozen BK103.out 0; have hfz31_1 := blk_frozen BK103.out 1; have hfz31_2 := blk_frozen BK103.out 2; have hfz31_3 := blk_frozen BK103.out 3; have hfz31_4 := blk_frozen BK103.out 4; have hfz31_5 := blk_frozen BK103.out 5; have hfz31_6 := blk_frozen BK103.out 6; have hfz31_7 := blk_frozen BK103.out 7; have hfz31_8 := blk_frozen BK103.out 8) | ((with_reducible refine gate_dst (N := 12) rfl ?_); (try (refine gate_guard (by rfl) ?_; dsimp only)); refine Kd.R_lit (Kd.int .i64) _ 2 ?hg (N := 12) ?hd (xs := ([a0_1, a0_8] : List Int)) (inner := [.int .i64 a0_1, .int .i64 a0_8]) (ok := fun _ => True) (okp := fun _ => True) ?hr ?hp (fun _ hk => hk) trivial (Below.refl _ _) (Nat.le_refl _) (by simp) ?_; (case hd => rfl); (case hg => rfl); (case hr => first | (go_simp; done) | (go_simp; rfl)); (case hp => exact (Reps.one (show Kd.M (Kd.int .i64) _ _ _ a0_1 [.int .i64 a0_1] from rfl) (Reps.one (show Kd.M (Kd.int .i64) _ _ _ a0_8 [.int .i64 a0_8] from rfl) (Reps.none _ _)))); intro v109 w32 ho33 hb hg_ hnew_; clear hg_ hnew_; (first | rw [← Ny108.out] at ho33 | (simp only [Int.reduceToNat] at ho33; rw [← Ny108.out] at ho33)); have n0_ := Aside0.mk (Kd.R_elder' (by (with_reducible repeat (first | apply Kd.R_alloc | apply Kd.R_drewN | apply Kd.R_drew)); exact HO106.out) (Kd.R_base ho33) hb); have n1_ := Aside0.mk (Kd.R_lower (Kd.R_new' ho33 (Kd.R_lt (by (with_reducible repeat (first | apply Kd.R_alloc | apply Kd.R_drewN | apply Kd.R_drew)); exact HO106.out))) (below_size (by repeat (first | (with_reducible first | exact HB.out | apply below_alloc | apply pw_below_drewN | apply below_drew1 | refine below_set ?_ GE103.out) | exact HB.out)))); have n2_ := Aside0.mk (blk_below (g := gb103) (o := .cells #[.int .i64 a0_0, .int .i64 a0_1, .int .i64 a0_2, .int .i64 a0_3, .int .i64 a0_4, .int .i64 a0_5, .int .i64 a0_6, .int .i64 a0_7, .int .i64 a0_8] 29 (0, 0)) (by (with_reducible repeat (first | refine blk_drewN ?_ _ | refine blk_drew ?_ | refine blk_alloc ?_ _)); exact BK103.out) hb); have n3_ := Aside0.mk (below_step (by repeat (first | (with_reducible first | exact HB.out | apply below_alloc | apply pw_below_drewN | apply below_drew1 | refine below_set ?_ GE103.out) | exact HB.out)) hb); clear HO106; clear BK103; clear HB; have HO106 := n0_; have HO110 := n1_; have BK103 := n2_; have HB := n3_; clear n0_ n1_ n2_ n3_; clear hb ho33; obtain ⟨Ao34, co34, eo34⟩ := Kd.R_slice HO110.out; subst eo34) | (go_at_call 96; (with_reducible refine (message_within.calls k 0 255 _ _ y108 true _ ?side1 ?side2 A4.out).mono ?_); (case side1 => repeat (first | exact (Kd.R_reads' HO110.out).2.2 | (with_reducible refine Kd.C_alloc ?_ _) | (with_reducible refine Kd.C_drewN ?_ _) | (with_reducible refine Kd.C_drew ?_))); (case side2 => exact (Kd.R_reads' HO110.out).2.1); rintro e w' ⟨rfl, ⟨nd, rfl⟩⟩; have hcz35_0 : w32.cell? ⟨gb103, 0, none⟩ = some (.int .i64 a0_0) := (blk_cell BK103.out 0).trans rfl; have hcz35_1 : w32.cell? ⟨gb103, 1, none⟩ = some (.int .i64 a0_1) := (blk_cell BK103.out 1).trans rfl; have hcz35_2 : w32.cell? ⟨gb103, 2, none⟩ = some (.int .i64 a0_2) := (blk_cell BK103.out 2).trans rfl; have hcz35_3 : w32.cell? ⟨gb103, 3, none⟩ = some (.int .i64 a0_3) := (blk_cell BK103.out 3).trans rfl; have hcz35_4 : w32.cell? ⟨gb103, 4, none⟩ = some (.int .i64 a0_4) := (blk_cell BK103.out 4).trans rfl; have hcz35_5 : w32.cell? ⟨gb103, 5, none⟩ = some (.int .i64 a0_5) := (blk_cell BK103.out 5).trans rfl; have hcz35_6 : w32.cell? ⟨gb103, 6, none⟩ = some (.int .i64 a0_6) := (blk_cell BK103.out 6).trans rfl; have hcz35_7 : w32.cell? ⟨gb103, 7, none⟩ = some (.int .i64 a0_7) := (blk_cell BK103.out 7).trans rfl; have hcz35_8 : w32.cell? ⟨gb103, 8, none⟩ = some (.int .i64 a0_8) := (blk_cell BK103.out 8).trans rfl; have hfz35_0 := blk_frozen BK103.out 0; have hfz35_1 := blk_frozen BK103.out 1; have hfz35_2 := blk_frozen BK103.out 2; have hfz35_3 := blk_frozen BK103.out 3; have hfz35_4 := blk_frozen BK103.out 4; have hfz35_5 := blk_frozen BK103.out 5; have hfz35_6 := blk_frozen BK103.out 6; have hfz35_7 := blk_frozen BK103.out 7; have hfz35_8 := blk_frozen BK103.out 8) | ((with_reducible refine gate_dst (N := 20) rfl ?_); (try (refine gate_guard (by rfl) ?_; dsimp only)); refine Kd.R_lit (Kd.int .i64) _ 2 ?hg (N := 20) ?hd (xs := ([a0_2, a0_3] : List Int)) (inner := [.int .i64 a0_2, .int .i64 a0_3]) (ok := fun _ => True) (okp := fun _ => True) ?hr ?hp (fun _ hk => hk) trivial (Below.refl _ _) (Nat.le_refl _) (by simp) ?_; (case hd => rfl); (case hg => rfl); (case hr => first | (go_simp; done) | (go_simp; rfl)); (case hp => exact (Reps.one (show Kd.M (Kd.int .i64) _ _ _ a0_2 [.int .i64 a0_2] from rfl) (Reps.one (show Kd.M (Kd.int .i64) _ _ _ a0_3 [.int .i64 a0_3] from rfl) (Reps.none _ _)))); intro v113 w36 ho37 hb hg_ hnew_; clear hg_ hnew_; (first | rw [← Ny112.out] at ho37 | (simp only [Int.reduceToNat] at ho37; rw [← Ny112.out] at ho37)); have n0_ := Aside0.mk (Kd.R_elder' (by (with_reducible repeat (first | apply Kd.R_alloc | apply Kd.R_drewN | apply Kd.R_drew)); exact HO106.out) (Kd.R_base ho37) hb); have n1_ := Aside0.mk (Kd.R_elder' (by (with_reducible repeat (first | apply Kd.R_alloc | apply Kd.R_drewN | apply Kd.R_drew)); exact HO110.out) (Kd.R_base ho37) hb); have n2_ := Aside0.mk (Kd.R_lower (Kd.R_new' (Kd.R_new' ho37 (Kd.R_lt (by (with_reducible repeat (first | apply Kd.R_alloc | apply Kd.R_drewN | apply Kd.R_drew)); exact HO106.out))) (Kd.R_lt (by (with_reducible repeat (first | apply Kd.R_alloc | apply Kd.R_drewN | apply Kd.R_drew)); exact HO110.out))) (below_size (by repeat (first | (with_reducible first | exact HB.out | apply below_alloc | apply pw_below_drewN | apply below_drew1 | refine below_set ?_ GE103.out) | exact HB.out)))); have n3_ := Aside0.mk (blk_below (g := gb103) (o := .cells #[.int .i64 a0_0, .int .i64 a0_1, .int .i64 a0_2, .int .i64 a0_3, .int .i64 a0_4, .int .i64 a0_5, .int .i64 a0_6, .int .i64 a0_7, .int .i64 a0_8] 29 (0, 0)) (by (with_reducible repeat (first | refine blk_drewN ?_ _ | refine blk_drew ?_ | refine blk_alloc ?_ _)); exact BK103.out) hb); have n4_ := Aside0.mk (below_step (by repeat (first | (with_reducible first | exact HB.out | apply below_alloc | apply pw_below_drewN | apply below_drew1 | refine below_set ?_ GE103.out) | exact HB.out)) hb); clear HO106; clear HO110; clear BK103; clear HB; have HO106 := n0_; have HO110 := n1_; have HO114 := n2_; have BK103 := n3_; have HB := n4_; clear n0_ n1_ n2_ n3_ n4_; clear hb ho37; obtain ⟨Ao38, co38, eo38⟩ := Kd.R_slice HO114.out; subst eo38) | (go_at_call 96; (with_reducible refine (message_within.calls k 0 4611686018427387904 _ _ y112 false _ ?side1 ?side2 A6.out).mono ?_); (case side1 => repeat (first | exact (Kd.R_reads' HO114.out).2.2 | (with_reducible refine Kd.C_alloc ?_ _) | (with_reducible refine Kd.C_drewN ?_ _) | (with_reducible refine Kd.C_drew ?_))); (case side2 => exact (Kd.R_reads' HO114.out).2.1); rintro e w' ⟨rfl, ⟨nd, rfl⟩⟩))
        go_ret
        exact ⟨by first | rfl | (simp [errW_none, errW_some] <;> rfl) | (simp [*, errW_none, errW_some] <;> rfl), by repeat (first | (with_reducible first | exact HB.out | apply below_alloc | apply pw_below_drewN | apply below_drew1 | refine below_set ?_ GE103.out) | exact HB.out)⟩
    · replace c5 := Bool.eq_false_iff.mpr c5
      subst c5
      have H1 : (some false) = some r := by rw [if_neg (show ¬ (false = true) by decide)] at H; exact H
      clear H
      have H := H1
      clear H1
      obtain rfl := Option.some.inj H
      go_enter Try.func32, Try.ntmps32
      go_wp2_with (first | ((with_reducible refine gate_dst (N := 1) rfl ?_); (try (refine gate_guard (by rfl) ?_; dsimp only)); refine box_event ?hg (N := 1) ?hd (cs := #[.int .i64 a0_0, .int .i64 a0_1, .int .i64 a0_2, .int .i64 a0_3, .int .i64 a0_4, .int .i64 a0_5, .int .i64 a0_6, .int .i64 a0_7, .int .i64 a0_8]) (t := 29) ?hr ?_; (case hd => rfl); (case hg => rfl); (case hr => first | (go_simp; done) | (go_simp; rfl)); intro gb103 hg w39 hbox hb; have n0_ := Aside0.mk (below_step (by repeat (first | (with_reducible first | exact HB.out | apply below_alloc | apply pw_below_drewN | apply below_drew1) | exact HB.out)) hb); have n1_ := Aside0.mk (hbox); have n2_ := Aside0.mk ((by rw [hg]; exact (below_size (by repeat (first | (with_reducible first | exact HB.out | apply below_alloc | apply pw_below_drewN | apply below_drew1) | exact HB.out))) : w.heap.size ≤ gb103)); have n3_ := Aside0.mk ((by rw [hg]; exact (below_size (by repeat (first | (with_reducible first | exact HB.out | apply below_alloc | apply pw_below_drewN | apply below_drew1) | exact HB.out))) : w.heap.size ≤ gb103)); clear HB; have HB := n0_; have BK103 := n1_; have GW103 := n2_; have GE103 := n3_; clear n0_ n1_ n2_ n3_; clear hb hbox hg; have hcz40_0 : w39.cell? ⟨gb103, 0, none⟩ = some (.int .i64 a0_0) := (blk_cell BK103.out 0).trans rfl; have hcz40_1 : w39.cell? ⟨gb103, 1, none⟩ = some (.int .i64 a0_1) := (blk_cell BK103.out 1).trans rfl; have hcz40_2 : w39.cell? ⟨gb103, 2, none⟩ = some (.int .i64 a0_2) := (blk_cell BK103.out 2).trans rfl; have hcz40_3 : w39.cell? ⟨gb103, 3, none⟩ = some (.int .i64 a0_3) := (blk_cell BK103.out 3).trans rfl; have hcz40_4 : w39.cell? ⟨gb103, 4, none⟩ = some (.int .i64 a0_4) := (blk_cell BK103.out 4).trans rfl; have hcz40_5 : w39.cell? ⟨gb103, 5, none⟩ = some (.int .i64 a0_5) := (blk_cell BK103.out 5).trans rfl; have hcz40_6 : w39.cell? ⟨gb103, 6, none⟩ = some (.int .i64 a0_6) := (blk_cell BK103.out 6).trans rfl; have hcz40_7 : w39.cell? ⟨gb103, 7, none⟩ = some (.int .i64 a0_7) := (blk_cell BK103.out 7).trans rfl; have hcz40_8 : w39.cell? ⟨gb103, 8, none⟩ = some (.int .i64 a0_8) := (blk_cell BK103.out 8).trans rfl; have hfz40_0 := blk_frozen BK103.out 0; have hfz40_1 := blk_frozen BK103.out 1; have hfz40_2 := blk_frozen BK103.out 2; have hfz40_3 := blk_frozen BK103.out 3; have hfz40_4 := blk_frozen BK103.out 4; have hfz40_5 := blk_frozen BK103.out 5; have hfz40_6 := blk_frozen BK103.out 6; have hfz40_7 := blk_frozen BK103.out 7; have hfz40_8 := blk_frozen BK103.out 8) | ((with_reducible refine gate_dst (N := 5) rfl ?_); (try (refine gate_guard (by rfl) ?_; dsimp only)); refine Kd.R_lit (Kd.int .i64) _ 2 ?hg (N := 5) ?hd (xs := ([a0_0] : List Int)) (inner := [.int .i64 a0_0]) (ok := fun _ => True) (okp := fun _ => True) ?hr ?hp (fun _ hk => hk) trivial (Below.refl _ _) (Nat.le_refl _) (by simp) ?_; (case hd => rfl); (case hg => rfl); (case hr => first | (go_simp; done) | (go_simp; rfl)); (case hp => exact (Reps.one (show Kd.M (Kd.int .i64) _ _ _ a0_0 [.int .i64 a0_0] from rfl) (Reps.none _ _))); intro v105 w41 ho42 hb hg_ hnew_; clear hg_ hnew_; (first | rw [← Ny104.out] at ho42 | (simp only [Int.reduceToNat] at ho42; rw [← Ny104.out] at ho42)); have n0_ := Aside0.mk (Kd.R_lower ho42 (below_size (by repeat (first | (with_reducible first | exact HB.out | apply below_alloc | apply pw_below_drewN | apply below_drew1 | refine below_set ?_ GE103.out) | exact HB.out)))); have n1_ := Aside0.mk (blk_below (g := gb103) (o := .cells #[.int .i64 a0_0, .int .i64 a0_1, .int .i64 a0_2, .int .i64 a0_3, .int .i64 a0_4, .int .i64 a0_5, .int .i64 a0_6, .int .i64 a0_7, .int .i64 a0_8] 29 (0, 0)) (by (with_reducible repeat (first | refine blk_drewN ?_ _ | refine blk_drew ?_ | refine blk_alloc ?_ _)); exact BK103.out) hb); have n2_ := Aside0.mk (below_step (by repeat (first | (with_reducible first | exact HB.out | apply below_alloc | apply pw_below_drewN | apply below_drew1 | refine below_set ?_ GE103.out) | exact HB.out)) hb); clear BK103; clear HB; have HO106 := n0_; have BK103 := n1_; have HB := n2_; clear n0_ n1_ n2_; clear hb ho42; obtain ⟨Ao43, co43, eo43⟩ := Kd.R_slice HO106.out; subst eo43) | ((with_reducible refine gate_callee (f := 96) rfl ?_); refine goesL_ (some 6) rfl rfl Try.func96 (by kernel_rfl) rfl #[.int .i64 1, .int .i64 9, .slice Ao43 y104.length co43] rfl (by (try simp only [List.map_toArray, List.map_cons, List.map_nil]); first | done | rfl | (simp only [List.length_drop, List.length_take]; rfl)) ?_; (with_reducible refine (message_within.calls k 1 9 _ _ y104 true _ ?side1 ?side2 A2.out).mono ?_); (case side1 => repeat (first | exact (Kd.R_reads' HO106.out).2.2 | (with_reducible refine Kd.C_alloc ?_ _) | (with_reducible refine Kd.C_drewN ?_ _) | (with_reducible refine Kd.C_drew ?_))); (case side2 => exact (Kd.R_reads' HO106.out).2.1); rintro e w' ⟨rfl, ⟨nd, rfl⟩⟩; refine ⟨_, rfl, ?_⟩; have hcz44_0 : w41.cell? ⟨gb103, 0, none⟩ = some (.int .i64 a0_0) := (blk_cell BK103.out 0).trans rfl; have hcz44_1 : w41.cell? ⟨gb103, 1, none⟩ = some (.int .i64 a0_1) := (blk_cell BK103.out 1).trans rfl; have hcz44_2 : w41.cell? ⟨gb103, 2, none⟩ = some (.int .i64 a0_2) := (blk_cell BK103.out 2).trans rfl; have hcz44_3 : w41.cell? ⟨gb103, 3, none⟩ = some (.int .i64 a0_3) := (blk_cell BK103.out 3).trans rfl; have hcz44_4 : w41.cell? ⟨gb103, 4, none⟩ = some (.int .i64 a0_4) := (blk_cell BK103.out 4).trans rfl; have hcz44_5 : w41.cell? ⟨gb103, 5, none⟩ = some (.int .i64 a0_5) := (blk_cell BK103.out 5).trans rfl; have hcz44_6 : w41.cell? ⟨gb103, 6, none⟩ = some (.int .i64 a0_6) := (blk_cell BK103.out 6).trans rfl; have hcz44_7 : w41.cell? ⟨gb103, 7, none⟩ = some (.int .i64 a0_7) := (blk_cell BK103.out 7).trans rfl; have hcz44_8 : w41.cell? ⟨gb103, 8, none⟩ = some (.int .i64 a0_8) := (blk_cell BK103.out 8).trans rfl; have hfz44_0 := blk_frozen BK103.out 0; have hfz44_1 := blk_frozen BK103.out 1; have hfz44_2 := blk_frozen BK103.out 2; have hfz44_3 := blk_frozen BK103.out 3; have hfz44_4 := blk_frozen BK103.out 4; have hfz44_5 := blk_frozen BK103.out 5; have hfz44_6 := blk_frozen BK103.out 6; have hfz44_7 := blk_frozen BK103.out 7; have hfz44_8 := blk_frozen BK103.out 8) | ((with_reducible refine gate_dst (N := 12) rfl ?_); (try (refine gate_guard (by rfl) ?_; dsimp only)); refine Kd.R_lit (Kd.int .i64) _ 2 ?hg (N := 12) ?hd (xs := ([a0_1, a0_8] : List Int)) (inner := [.int .i64 a0_1, .int .i64 a0_8]) (ok := fun _ => True) (okp := fun _ => True) ?hr ?hp (fun _ hk => hk) trivial (Below.refl _ _) (Nat.le_refl _) (by simp) ?_; (case hd => rfl); (case hg => rfl); (case hr => first | (go_simp; done) | (go_simp; rfl)); (case hp => exact (Reps.one (show Kd.M (Kd.int .i64) _ _ _ a0_1 [.int .i64 a0_1] from rfl) (Reps.one (show Kd.M (Kd.int .i64) _ _ _ a0_8 [.int .i64 a0_8] from rfl) (Reps.none _ _)))); intro v109 w45 ho46 hb hg_ hnew_; clear hg_ hnew_; (first | rw [← Ny108.out] at ho46 | (simp only [Int.reduceToNat] at ho46; rw [← Ny108.out] at ho46)); have n0_ := Aside0.mk (Kd.R_elder' (by (with_reducible repeat (first | apply Kd.R_alloc | apply Kd.R_drewN | apply Kd.R_drew)); exact HO106.out) (Kd.R_base ho46) hb); have n1_ := Aside0.mk (Kd.R_lower (Kd.R_new' ho46 (Kd.R_lt (by (with_reducible repeat (first | apply Kd.R_alloc | apply Kd.R_drewN | apply Kd.R_drew)); exact HO106.out))) (below_size (by repeat (first | (with_reducible first | exact HB.out | apply below_alloc | apply pw_below_drewN | apply below_drew1 | refine below_set ?_ GE103.out) | exact HB.out)))); have n2_ := Aside0.mk (blk_below (g := gb103) (o := .cells #[.int .i64 a0_0, .int .i64 a0_1, .int .i64 a0_2, .int .i64 a0_3, .int .i64 a0_4, .int .i64 a0_5, .int .i64 a0_6, .int .i64 a0_7, .int .i64 a0_8] 29 (0, 0)) (by (with_reducible repeat (first | refine blk_drewN ?_ _ | refine blk_drew ?_ | refine blk_alloc ?_ _)); exact BK103.out) hb); have n3_ := Aside0.mk (below_step (by repeat (first | (with_reducible first | exact HB.out | apply below_alloc | apply pw_below_drewN | apply below_drew1 | refine below_set ?_ GE103.out) | exact HB.out)) hb); clear HO106; clear BK103; clear HB; have HO106 := n0_; have HO110 := n1_; have BK103 := n2_; have HB := n3_; clear n0_ n1_ n2_ n3_; clear hb ho46; obtain ⟨Ao47, co47, eo47⟩ := Kd.R_slice HO110.out; subst eo47) | (go_at_call 96; (with_reducible refine (message_within.calls k 0 255 _ _ y108 false _ ?side1 ?side2 A4.out).mono ?_); (case side1 => repeat (first | exact (Kd.R_reads' HO110.out).2.2 | (with_reducible refine Kd.C_alloc ?_ _) | (with_reducible refine Kd.C_drewN ?_ _) | (with_reducible refine Kd.C_drew ?_))); (case side2 => exact (Kd.R_reads' HO110.out).2.1); rintro e w' ⟨rfl, ⟨nd, rfl⟩⟩))
      go_ret
      exact ⟨by first | rfl | (simp [errW_none, errW_some] <;> rfl) | (simp [*, errW_none, errW_some] <;> rfl), by repeat (first | (with_reducible first | exact HB.out | apply below_alloc | apply pw_below_drewN | apply below_drew1 | refine below_set ?_ GE103.out) | exact HB.out)⟩
  · replace c3 := Bool.eq_false_iff.mpr c3
    subst c3
    have H1 : (some false) = some r := by rw [if_neg (show ¬ (false = true) by decide)] at H; exact H
    clear H
    have H := H1
    clear H1
    obtain rfl := Option.some.inj H
    go_enter Try.func32, Try.ntmps32
    go_wp2_with (first | ((with_reducible refine gate_dst (N := 1) rfl ?_); (try (refine gate_guard (by rfl) ?_; dsimp only)); refine box_event ?hg (N := 1) ?hd (cs := #[.int .i64 a0_0, .int .i64 a0_1, .int .i64 a0_2, .int .i64 a0_3, .int .i64 a0_4, .int .i64 a0_5, .int .i64 a0_6, .int .i64 a0_7, .int .i64 a0_8]) (t := 29) ?hr ?_; (case hd => rfl); (case hg => rfl); (case hr => first | (go_simp; done) | (go_simp; rfl)); intro gb103 hg w48 hbox hb; have n0_ := Aside0.mk (below_step (by repeat (first | (with_reducible first | exact HB.out | apply below_alloc | apply pw_below_drewN | apply below_drew1) | exact HB.out)) hb); have n1_ := Aside0.mk (hbox); have n2_ := Aside0.mk ((by rw [hg]; exact (below_size (by repeat (first | (with_reducible first | exact HB.out | apply below_alloc | apply pw_below_drewN | apply below_drew1) | exact HB.out))) : w.heap.size ≤ gb103)); have n3_ := Aside0.mk ((by rw [hg]; exact (below_size (by repeat (first | (with_reducible first | exact HB.out | apply below_alloc | apply pw_below_drewN | apply below_drew1) | exact HB.out))) : w.heap.size ≤ gb103)); clear HB; have HB := n0_; have BK103 := n1_; have GW103 := n2_; have GE103 := n3_; clear n0_ n1_ n2_ n3_; clear hb hbox hg; have hcz49_0 : w48.cell? ⟨gb103, 0, none⟩ = some (.int .i64 a0_0) := (blk_cell BK103.out 0).trans rfl; have hcz49_1 : w48.cell? ⟨gb103, 1, none⟩ = some (.int .i64 a0_1) := (blk_cell BK103.out 1).trans rfl; have hcz49_2 : w48.cell? ⟨gb103, 2, none⟩ = some (.int .i64 a0_2) := (blk_cell BK103.out 2).trans rfl; have hcz49_3 : w48.cell? ⟨gb103, 3, none⟩ = some (.int .i64 a0_3) := (blk_cell BK103.out 3).trans rfl; have hcz49_4 : w48.cell? ⟨gb103, 4, none⟩ = some (.int .i64 a0_4) := (blk_cell BK103.out 4).trans rfl; have hcz49_5 : w48.cell? ⟨gb103, 5, none⟩ = some (.int .i64 a0_5) := (blk_cell BK103.out 5).trans rfl; have hcz49_6 : w48.cell? ⟨gb103, 6, none⟩ = some (.int .i64 a0_6) := (blk_cell BK103.out 6).trans rfl; have hcz49_7 : w48.cell? ⟨gb103, 7, none⟩ = some (.int .i64 a0_7) := (blk_cell BK103.out 7).trans rfl; have hcz49_8 : w48.cell? ⟨gb103, 8, none⟩ = some (.int .i64 a0_8) := (blk_cell BK103.out 8).trans rfl; have hfz49_0 := blk_frozen BK103.out 0; have hfz49_1 := blk_frozen BK103.out 1; have hfz49_2 := blk_frozen BK103.out 2; have hfz49_3 := blk_frozen BK103.out 3; have hfz49_4 := blk_frozen BK103.out 4; have hfz49_5 := blk_frozen BK103.out 5; have hfz49_6 := blk_frozen BK103.out 6; have hfz49_7 := blk_frozen BK103.out 7; have hfz49_8 := blk_frozen BK103.out 8) | ((with_reducible refine gate_dst (N := 5) rfl ?_); (try (refine gate_guard (by rfl) ?_; dsimp only)); refine Kd.R_lit (Kd.int .i64) _ 2 ?hg (N := 5) ?hd (xs := ([a0_0] : List Int)) (inner := [.int .i64 a0_0]) (ok := fun _ => True) (okp := fun _ => True) ?hr ?hp (fun _ hk => hk) trivial (Below.refl _ _) (Nat.le_refl _) (by simp) ?_; (case hd => rfl); (case hg => rfl); (case hr => first | (go_simp; done) | (go_simp; rfl)); (case hp => exact (Reps.one (show Kd.M (Kd.int .i64) _ _ _ a0_0 [.int .i64 a0_0] from rfl) (Reps.none _ _))); intro v105 w50 ho51 hb hg_ hnew_; clear hg_ hnew_; (first | rw [← Ny104.out] at ho51 | (simp only [Int.reduceToNat] at ho51; rw [← Ny104.out] at ho51)); have n0_ := Aside0.mk (Kd.R_lower ho51 (below_size (by repeat (first | (with_reducible first | exact HB.out | apply below_alloc | apply pw_below_drewN | apply below_drew1 | refine below_set ?_ GE103.out) | exact HB.out)))); have n1_ := Aside0.mk (blk_below (g := gb103) (o := .cells #[.int .i64 a0_0, .int .i64 a0_1, .int .i64 a0_2, .int .i64 a0_3, .int .i64 a0_4, .int .i64 a0_5, .int .i64 a0_6, .int .i64 a0_7, .int .i64 a0_8] 29 (0, 0)) (by (with_reducible repeat (first | refine blk_drewN ?_ _ | refine blk_drew ?_ | refine blk_alloc ?_ _)); exact BK103.out) hb); have n2_ := Aside0.mk (below_step (by repeat (first | (with_reducible first | exact HB.out | apply below_alloc | apply pw_below_drewN | apply below_drew1 | refine below_set ?_ GE103.out) | exact HB.out)) hb); clear BK103; clear HB; have HO106 := n0_; have BK103 := n1_; have HB := n2_; clear n0_ n1_ n2_; clear hb ho51; obtain ⟨Ao52, co52, eo52⟩ := Kd.R_slice HO106.out; subst eo52) | ((with_reducible refine gate_callee (f := 96) rfl ?_); refine goesL_ (some 6) rfl rfl Try.func96 (by kernel_rfl) rfl #[.int .i64 1, .int .i64 9, .slice Ao52 y104.length co52] rfl (by (try simp only [List.map_toArray, List.map_cons, List.map_nil]); first | done | rfl | (simp only [List.length_drop, List.length_take]; rfl)) ?_; (with_reducible refine (message_within.calls k 1 9 _ _ y104 false _ ?side1 ?side2 A2.out).mono ?_); (case side1 => repeat (first | exact (Kd.R_reads' HO106.out).2.2 | (with_reducible refine Kd.C_alloc ?_ _) | (with_reducible refine Kd.C_drewN ?_ _) | (with_reducible refine Kd.C_drew ?_))); (case side2 => exact (Kd.R_reads' HO106.out).2.1); rintro e w' ⟨rfl, ⟨nd, rfl⟩⟩; refine ⟨_, rfl, ?_⟩))
    go_ret
    exact ⟨by first | rfl | (simp [errW_none, errW_some] <;> rfl) | (simp [*, errW_none, errW_some] <;> rfl), by repeat (first | (with_reducible first | exact HB.out | apply below_alloc | apply pw_below_drewN | apply below_drew1 | refine below_set ?_ GE103.out) | exact HB.out)⟩

end Go.Proofs.Ytalpemoodollpaa.P
/- Messages: which are right, their bytes. -/
namespace Go.Proofs.Ytalpemoodollpaa.P
open Go.RowKit Go.Proofs.YtalpemoodollpaaW.PrintWords Go.Proofs.YtalpemoodollpaaW.PrintLast Go.Proofs.YtalpemoodollpaaW.PrintMore
set_option linter.unusedVariables false
set_option linter.unusedSimpArgs false

def within_ (lo hi a : Int) : Bool := decide (lo ≤ a) && decide (a ≤ hi)
def msgRight (m : S29) : Bool :=
  within_ 1 9 m.f0 && within_ 0 255 m.f1 && within_ 0 255 m.f8 && within_ 0 4611686018427387904 m.f2 && within_ 0 4611686018427387904 m.f3 && within_ (-1) 4611686018427387904 m.f4 && within_ (-1) 4611686018427387904 m.f5
def i64B (a : Int) : Bool := within_ (-9223372036854775808) 9223372036854775807 a
def msgForm (m : S29) : List Int := [m.f0, m.f1, m.f8] ++ numForm m.f2.toNat ++ numForm m.f3.toNat ++ intForm m.f4 ++ intForm m.f5 ++ intForm m.f6 ++ intForm m.f7
theorem within_iff {lo hi a : Int} : within_ lo hi a = true ↔ lo ≤ a ∧ a ≤ hi := by simp [within_]
theorem wrap1 : wrap64 (0 + 1) = 1 := by rw [wrap64_eq]; omega
theorem wrap2 : wrap64 (1 + 1) = 2 := by rw [wrap64_eq]; omega
theorem within1 (lo hi a : Int) : message_within.f 4 lo hi [a] = some (within_ lo hi a) := by
  unfold message_within.f
  simp only [message_within.l0, wrap1, wrap2, rd, within_, List.length_cons, List.length_nil]
  by_cases h1 : a < lo
  · have h2 : ¬ lo ≤ a := by omega
    simp [h1, h2]
  · by_cases h3 : a > hi
    · have h2 : lo ≤ a := by omega
      have h4 : ¬ a ≤ hi := by omega
      simp [h1, h2, h3, h4]
    · have h2 : lo ≤ a := by omega
      have h4 : a ≤ hi := by omega
      simp [h1, h2, h3, h4]
theorem within2 (lo hi a b : Int) : message_within.f 4 lo hi [a, b] = some (within_ lo hi a && within_ lo hi b) := by
  unfold message_within.f
  simp only [message_within.l0, wrap1, wrap2, rd, within_, List.length_cons, List.length_nil]
  by_cases h1 : a < lo
  · have h2 : ¬ lo ≤ a := by omega
    simp [h1, h2]
  · by_cases h3 : a > hi
    · have h2 : lo ≤ a := by omega
      have h4 : ¬ a ≤ hi := by omega
      simp [h1, h2, h3, h4]
    · have h2 : lo ≤ a := by omega
      have h4 : a ≤ hi := by omega
      by_cases h5 : b < lo
      · have h6 : ¬ lo ≤ b := by omega
        simp [h1, h2, h3, h4, h5, h6]
      · by_cases h7 : b > hi
        · have h6 : lo ≤ b := by omega
          have h8 : ¬ b ≤ hi := by omega
          simp [h1, h2, h3, h4, h5, h6, h7, h8]
        · have h6 : lo ≤ b := by omega
          have h8 : b ≤ hi := by omega
          simp [h1, h2, h3, h4, h5, h6, h7, h8]
theorem msgRight_f (m : S29) : message_Right.f 4 m.f0 m.f1 m.f2 m.f3 m.f4 m.f5 m.f6 m.f7 m.f8 = some (msgRight m) := by
  unfold message_Right.f msgRight
  rw [within1, within2, within2, within2]
  simp only [Option.bind_some]
  cases within_ 1 9 m.f0 <;> cases within_ 0 255 m.f1 <;> cases within_ 0 255 m.f8 <;> cases within_ 0 4611686018427387904 m.f2 <;> cases within_ 0 4611686018427387904 m.f3 <;> simp
def msgVal (m : S29) : Value := .agg #[.int .i64 m.f0, .int .i64 m.f1, .int .i64 m.f2, .int .i64 m.f3, .int .i64 m.f4, .int .i64 m.f5, .int .i64 m.f6, .int .i64 m.f7, .int .i64 m.f8]
theorem msgRight_calls (m : S29) (w : World) : Calls Try.prog 32 #[.agg #[.int .i64 m.f0, .int .i64 m.f1, .int .i64 m.f2, .int .i64 m.f3, .int .i64 m.f4, .int .i64 m.f5, .int .i64 m.f6, .int .i64 m.f7, .int .i64 m.f8]] w fun e w' => e = .returned (.bool (msgRight m)) ∧ Below w.heap.size w w' :=
  message_Right.calls 4 _ _ _ _ _ _ _ _ _ _ w (msgRight_f m)
theorem msgForm_length (m : S29) (h : msgRight m = true) : (msgForm m).length ≤ 55 ∧ 37 ≤ (msgForm m).length := by
  simp only [msgRight, Bool.and_eq_true, within_iff] at h
  have h2 := numForm_ten m.f2 (by omega)
  have h3 := numForm_ten m.f3 (by omega)
  have p2 := numForm_pos m.f2.toNat
  have p3 := numForm_pos m.f3.toNat
  simp only [msgForm, List.length_append, List.length_cons, List.length_nil, intForm_length]
  omega
theorem msgForm_byt (m : S29) (h : msgRight m = true) : Byt (msgForm m) := by
  simp only [msgRight, Bool.and_eq_true, within_iff] at h
  unfold msgForm
  refine ((((((Byt.append ?_ (numForm_byt _)).append (numForm_byt _)).append (intForm_byt _)).append (intForm_byt _)).append (intForm_byt _)).append (intForm_byt _))
  exact Byt.mk (by omega) (Byt.mk (by omega) (Byt.mk (by omega) Byt.nil))
end Go.Proofs.Ytalpemoodollpaa.P
/- The contract of message.Decode. -/
namespace Go.Proofs.Ytalpemoodollpaa.P
open Go.RowKit Go.Proofs.YtalpemoodollpaaW.PrintWords Go.Proofs.YtalpemoodollpaaW.PrintLast Go.Proofs.YtalpemoodollpaaW.PrintMore
set_option linter.unusedVariables false
set_option linter.unusedSimpArgs false
attribute [local go_sem] max2_int min2_int max_two min_two
/-- The end of a decoding: the fault, or the message. -/
def msgFin (k sym seq tick id wi price qty code : Int) (s : List Int × Int) : S29 × Int :=
  if s.2 ≠ 0 then (⟨0, 0, 0, 0, 0, 0, 0, 0, 0⟩, s.2)
  else if 0 < s.1.length ∨ msgRight ⟨k, sym, mn seq 4611686018427387905, mn tick 4611686018427387905, id, wi, price, qty, code⟩ = false then (⟨0, 0, 0, 0, 0, 0, 0, 0, 0⟩, 4)
  else (⟨k, sym, mn seq 4611686018427387905, mn tick 4611686018427387905, id, wi, price, qty, code⟩, 0)
def msgTail (k sym code seq tick : Int) (s : List Int × Int) : S29 × Int :=
  msgFin k sym seq tick (unzig (rUint s 8).1) (unzig (rUint (rUint s 8).2 8).1) (unzig (rUint (rUint (rUint s 8).2 8).2 8).1) (unzig (rUint (rUint (rUint (rUint s 8).2 8).2 8).2 8).1) code (rUint (rUint (rUint (rUint s 8).2 8).2 8).2 8).2
def msgMid (k sym code : Int) (s : List Int × Int) : S29 × Int := msgTail k sym code (rNum s).1 (rNum (rNum s).2).1 (rNum (rNum s).2).2
def msgDec (b : List Int) : S29 × Int :=
  msgMid (rUint (b, 0) 1).1 (rUint (rUint (b, 0) 1).2 1).1 (rUint (rUint (rUint (b, 0) 1).2 1).2 1).1 (rUint (rUint (rUint (b, 0) 1).2 1).2 1).2
/-- 'one': a byte. -/
theorem RK.oneM {w0 W : World} {lo g b : Nat} {s : List Int × Int} (h : RK w0 W lo g s) (hc : W.cell? ⟨b, 0, none⟩ = some (.pointer (some ⟨g, 0, none⟩))) :
    Calls Try.prog 125 #[.pointer (some ⟨b, 0, none⟩)] W fun e w' => e = .returned (.int .i64 (rUint s 1).1) ∧ RK w0 w' lo g (rUint s 1).2 ∧ KeepG W w' g := by
  have hr := rUint1_range s h.byt
  have HT := Aside0.mk (h.uint 1)
  clear h
  generalize rUint s 1 = T at *
  obtain ⟨n, s1⟩ := T
  dsimp only at hr
  have h1 := hr.1
  have h2 := hr.2
  clear hr
  go_enter Try.func125, Try.ntmps125
  go_wp2_with fail
  refine HT.out.mono ?_
  rintro e w' ⟨rfl, hk, hg⟩
  have HK := Aside0.mk hk
  have HG := Aside0.mk hg
  clear hk hg
  go_wp2
  go_ret
  exact ⟨rfl, HK.out, HG.out⟩
theorem DS.oneM {w W : World} {t b4 g lo : Nat} {s : List Int × Int} {x0 x1 x2 x3 x4 x5 x6 x7 x8 : Int} (h : DS w W t b4 g lo s x0 x1 x2 x3 x4 x5 x6 x7 x8) :
    Calls Try.prog 125 #[.pointer (some ⟨b4, 0, none⟩)] W fun e w' => e = .returned (.int .i64 (rUint s 1).1) ∧ DS w w' t b4 g lo (rUint s 1).2 x0 x1 x2 x3 x4 x5 x6 x7 x8 :=
  (h.rk.oneM h.cell).mono fun e w' ⟨he, hk, kg⟩ => ⟨he, h.step hk kg⟩
set_option maxRecDepth 100000 in
set_option maxHeartbeats 2000000 in
theorem msgDec_calls (A0 : Option Addr) (c0 : Nat) (b : List Int) (w : World) (hr0 : Kd.C (Kd.int .u8) w A0 b.length b) (hl : b.length ≤ 140737488355328) (hb : Byt b) :
    Calls Try.prog 80 #[.slice A0 b.length c0] w fun e w' => e = .returned (.tuple #[.agg #[.int .i64 (msgDec b).1.f0, .int .i64 (msgDec b).1.f1, .int .i64 (msgDec b).1.f2, .int .i64 (msgDec b).1.f3, .int .i64 (msgDec b).1.f4, .int .i64 (msgDec b).1.f5, .int .i64 (msgDec b).1.f6, .int .i64 (msgDec b).1.f7, .int .i64 (msgDec b).1.f8], .int .i64 (msgDec b).2]) ∧ Below w.heap.size w w' := by
  have hu29 := Try.underlying29
  have HR := Aside0.mk hr0
  have HY := Aside0.mk hb
  clear hr0 hb
  generalize hG : msgDec b = G
  unfold msgDec msgMid msgTail at hG
  have HG := Aside0.mk hG
  clear hG
  have B0 := Aside0.mk (below_alloc (Below.refl w.heap.size w) (.cells #[.int .i64 0, .int .i64 0, .int .i64 0, .int .i64 0, .int .i64 0, .int .i64 0, .int .i64 0, .int .i64 0, .int .i64 0] 29))
  have BX0 := Aside0.mk (show Box9 (w.alloc (.cells #[.int .i64 0, .int .i64 0, .int .i64 0, .int .i64 0, .int .i64 0, .int .i64 0, .int .i64 0, .int .i64 0, .int .i64 0] 29)) 29 w.heap.size 0 0 0 0 0 0 0 0 0 from blk_new w _)
  go_enter Try.func80, Try.ntmps80
  go_wp2_with fail
  refine (RK.new (w0 := w) A0 c0 b B0.out (Kd.C_below HR.out B0.out) hl HY.out).mono ?_
  rintro e w1 ⟨g, rfl, hk, hb1⟩
  have BX1 := Aside0.mk (show Box9 w1 29 w.heap.size 0 0 0 0 0 0 0 0 0 from (hb1.block _ (by simp)).trans BX0.out)
  have D1 := Aside0.mk (show DS w (w1.alloc (.cells #[.pointer (some ⟨g, 0, none⟩)] 78)) 29 w1.heap.size g (w.heap.size + 1) (b, 0) 0 0 0 0 0 0 0 0 0 from by
    have hk2 := hk
    rw [World.size_alloc] at hk2
    have hk3 := hk2.alloc (.cells #[.pointer (some ⟨g, 0, none⟩)] 78)
    have := hk2.lt
    have := hb1.size
    rw [World.size_alloc] at this
    exact ⟨hk3, blk_alloc BX1.out _, blk_new w1 _, by omega, by omega, by omega⟩)
  clear hk hb1
  go_wp2_with fail
  generalize (w1.alloc (.cells #[.pointer (some ⟨g, 0, none⟩)] 78)) = w2 at *
  generalize hb4 : w1.heap.size = b4 at *
  clear hb4
  obtain ⟨lo, hlo⟩ : ∃ lo, lo = w.heap.size + 1 := ⟨_, rfl⟩
  rw [← hlo] at D1
  clear hlo BX1 BX0 B0 HY HR hl
  have CX := Aside0.mk (DS.oneM D1.out)
  have CR := rUint1_range _ D1.out.rk.byt
  generalize rUint (b, 0) 1 = T at *
  obtain ⟨k, s1⟩ := T
  try dsimp only at *
  have kr := Aside0.mk CR
  clear CR
  refine CX.out.mono ?_
  rintro e w2 ⟨rfl, hd⟩
  have Dw2 := Aside0.mk hd
  clear hd CX
  obtain ⟨c0, c1, c2, c3, c4, c5, c6, c7, c8⟩ := Dw2.out.bx.cells
  obtain ⟨z0, z1, z2, z3, z4, z5, z6, z7, z8⟩ := Dw2.out.frozen
  have cp := Dw2.out.cell
  go_wp2_with fail
  clear c0 c1 c2 c3 c4 c5 c6 c7 c8 z0 z1 z2 z3 z4 z5 z6 z7 z8 cp
  have CX := Aside0.mk (DS.oneM Dw2.out)
  have CR := rUint1_range _ Dw2.out.rk.byt
  generalize rUint s1 1 = T at *
  obtain ⟨sym, s2⟩ := T
  try dsimp only at *
  have symr := Aside0.mk CR
  clear CR
  refine CX.out.mono ?_
  rintro e w3 ⟨rfl, hd⟩
  have Dw3 := Aside0.mk hd
  clear hd CX
  obtain ⟨c0, c1, c2, c3, c4, c5, c6, c7, c8⟩ := Dw3.out.bx.cells
  obtain ⟨z0, z1, z2, z3, z4, z5, z6, z7, z8⟩ := Dw3.out.frozen
  have cp := Dw3.out.cell
  go_wp2_with fail
  clear c0 c1 c2 c3 c4 c5 c6 c7 c8 z0 z1 z2 z3 z4 z5 z6 z7 z8 cp
  have CX := Aside0.mk (DS.oneM Dw3.out)
  have CR := rUint1_range _ Dw3.out.rk.byt
  generalize rUint s2 1 = T at *
  obtain ⟨code, s3⟩ := T
  try dsimp only at *
  have coder := Aside0.mk CR
  clear CR
  refine CX.out.mono ?_
  rintro e w4 ⟨rfl, hd⟩
  have Dw4 := Aside0.mk hd
  clear hd CX
  have D5 := Aside0.mk (((Dw4.out.set0 k).set1 sym).set8 code)
  obtain ⟨c0, c1, c2, c3, c4, c5, c6, c7, c8⟩ := Dw4.out.bx.cells
  obtain ⟨z0, z1, z2, z3, z4, z5, z6, z7, z8⟩ := Dw4.out.frozen
  have cp := Dw4.out.cell
  obtain ⟨e0, e1, e2, e3, e4, e5, e6, e7, e8⟩ := D5.out.bx.cells
  have ep := D5.out.cell
  go_wp2
  clear e0 e1 e2 e3 e4 e5 e6 e7 e8 ep
  clear c0 c1 c2 c3 c4 c5 c6 c7 c8 z0 z1 z2 z3 z4 z5 z6 z7 z8 cp
  generalize (((w4.setCell ⟨w.heap.size, 0, none⟩ (.int .i64 k)).setCell ⟨w.heap.size, 1, none⟩ (.int .i64 sym)).setCell ⟨w.heap.size, 8, none⟩ (.int .i64 code)) = w5 at *
  obtain ⟨c0, c1, c2, c3, c4, c5, c6, c7, c8⟩ := D5.out.bx.cells
  obtain ⟨z0, z1, z2, z3, z4, z5, z6, z7, z8⟩ := D5.out.frozen
  have cp := D5.out.cell
  have D5d := Aside0.mk (D5.out.below (Below.refl _ _).drew)
  go_region_held3 (fun w' => w'.cell? ⟨b4, 0, none⟩ = some (.pointer (some ⟨g, 0, none⟩))) (first | assumption | go_keep)
    (first | (go_at_call 100; (with_reducible refine (D6.out.num).mono ?_); rintro e w7 ⟨rfl, hd⟩; have D7 := Aside0.mk hd; have cp7 := hd.cell; clear hd) | (go_at_call 100; (with_reducible refine (D5d.out.num).mono ?_); rintro e w6 ⟨rfl, hd⟩; have D6 := Aside0.mk hd; have cp6 := hd.cell; clear hd))
  clear c0 c1 c2 c3 c4 c5 c6 c7 c8 z0 z1 z2 z3 z4 z5 z6 z7 z8 cp
  go_wp2_with fail
  have seqr := Aside0.mk (rNum_range s3 D5.out.rk.byt)
  have CB := byt_rNum s3 D5.out.rk.byt
  generalize rNum s3 = T at *
  obtain ⟨sq, s4⟩ := T
  try dsimp only at *
  have tckr := Aside0.mk (rNum_range s4 CB)
  clear CB
  generalize rNum s4 = T at *
  obtain ⟨tk, s5⟩ := T
  try dsimp only at *
  have CX := Aside0.mk (D7.out.int)
  have CR := rUint_range _ 8 D7.out.rk.byt
  generalize rUint s5 8 = T at *
  obtain ⟨a4, s6⟩ := T
  try dsimp only at *
  have a4r := Aside0.mk CR
  clear CR
  refine CX.out.mono ?_
  rintro e w8 ⟨rfl, hd⟩
  have Dw8 := Aside0.mk hd
  clear hd CX
  obtain ⟨c0, c1, c2, c3, c4, c5, c6, c7, c8⟩ := Dw8.out.bx.cells
  obtain ⟨z0, z1, z2, z3, z4, z5, z6, z7, z8⟩ := Dw8.out.frozen
  have cp := Dw8.out.cell
  go_wp2_with fail
  clear c0 c1 c2 c3 c4 c5 c6 c7 c8 z0 z1 z2 z3 z4 z5 z6 z7 z8 cp
  have CX := Aside0.mk (Dw8.out.int)
  have CR := rUint_range _ 8 Dw8.out.rk.byt
  generalize rUint s6 8 = T at *
  obtain ⟨a5, s7⟩ := T
  try dsimp only at *
  have a5r := Aside0.mk CR
  clear CR
  refine CX.out.mono ?_
  rintro e w9 ⟨rfl, hd⟩
  have Dw9 := Aside0.mk hd
  clear hd CX
  obtain ⟨c0, c1, c2, c3, c4, c5, c6, c7, c8⟩ := Dw9.out.bx.cells
  obtain ⟨z0, z1, z2, z3, z4, z5, z6, z7, z8⟩ := Dw9.out.frozen
  have cp := Dw9.out.cell
  go_wp2_with fail
  clear c0 c1 c2 c3 c4 c5 c6 c7 c8 z0 z1 z2 z3 z4 z5 z6 z7 z8 cp
  have CX := Aside0.mk (Dw9.out.int)
  have CR := rUint_range _ 8 Dw9.out.rk.byt
  generalize rUint s7 8 = T at *
  obtain ⟨a6, s8⟩ := T
  try dsimp only at *
  have a6r := Aside0.mk CR
  clear CR
  refine CX.out.mono ?_
  rintro e w10 ⟨rfl, hd⟩
  have Dw10 := Aside0.mk hd
  clear hd CX
  obtain ⟨c0, c1, c2, c3, c4, c5, c6, c7, c8⟩ := Dw10.out.bx.cells
  obtain ⟨z0, z1, z2, z3, z4, z5, z6, z7, z8⟩ := Dw10.out.frozen
  have cp := Dw10.out.cell
  go_wp2_with fail
  clear c0 c1 c2 c3 c4 c5 c6 c7 c8 z0 z1 z2 z3 z4 z5 z6 z7 z8 cp
  have CX := Aside0.mk (Dw10.out.int)
  have CR := rUint_range _ 8 Dw10.out.rk.byt
  generalize rUint s8 8 = T at *
  obtain ⟨a7, s9⟩ := T
  try dsimp only at *
  have a7r := Aside0.mk CR
  clear CR
  refine CX.out.mono ?_
  rintro e w11 ⟨rfl, hd⟩
  have Dw11 := Aside0.mk hd
  clear hd CX
  generalize unzig a4 = q4 at *
  generalize unzig a5 = q5 at *
  generalize unzig a6 = q6 at *
  generalize unzig a7 = q7 at *
  have DB := Aside0.mk ((((Dw11.out.set4 q4).set5 q5).set6 q6).set7 q7)
  obtain ⟨c0, c1, c2, c3, c4, c5, c6, c7, c8⟩ := Dw11.out.bx.cells
  obtain ⟨z0, z1, z2, z3, z4, z5, z6, z7, z8⟩ := Dw11.out.frozen
  have cp := Dw11.out.cell
  obtain ⟨e0, e1, e2, e3, e4, e5, e6, e7, e8⟩ := DB.out.bx.cells
  have ep := DB.out.cell
  obtain ⟨ls, fs⟩ := s9
  have FY := Aside0.mk DB.out.rk.fault
  try dsimp only at *
  go_wp2_with fail
  clear e0 e1 e2 e3 e4 e5 e6 e7 e8 ep
  clear c0 c1 c2 c3 c4 c5 c6 c7 c8 z0 z1 z2 z3 z4 z5 z6 z7 z8 cp
  generalize ((((w11.setCell ⟨w.heap.size, 4, none⟩ (.int .i64 q4)).setCell ⟨w.heap.size, 5, none⟩ (.int .i64 q5)).setCell ⟨w.heap.size, 6, none⟩ (.int .i64 q6)).setCell ⟨w.heap.size, 7, none⟩ (.int .i64 q7)) = wB at *
  try dsimp only at FY
  obtain ⟨c0, c1, c2, c3, c4, c5, c6, c7, c8⟩ := DB.out.bx.cells
  obtain ⟨z0, z1, z2, z3, z4, z5, z6, z7, z8⟩ := DB.out.frozen
  have cp := DB.out.cell
  refine FY.out.mono ?_
  rintro e wf ⟨rfl, rfl⟩
  dsimp only
  unfold msgFin at HG
  try dsimp only at HG
  by_cases hf : fs = 0
  · subst hf
    rw [if_neg (by decide)] at HG
    obtain ⟨m1, hm1⟩ : ∃ m, (if 4611686018427387905 < sq then 4611686018427387905 else sq) = m := ⟨_, rfl⟩
    have HM1 := Aside0.mk (show mn sq 4611686018427387905 = m1 from hm1)
    have hb1 : 0 ≤ m1 ∧ m1 ≤ 4611686018427387905 := by have := seqr.out; rw [← hm1]; split <;> omega
    have hb1a := hb1.1
    have hb1b := hb1.2
    clear hb1
    obtain ⟨m2, hm2⟩ : ∃ m, (if 4611686018427387905 < tk then 4611686018427387905 else tk) = m := ⟨_, rfl⟩
    have HM2 := Aside0.mk (show mn tk 4611686018427387905 = m2 from hm2)
    have hb2 : 0 ≤ m2 ∧ m2 ≤ 4611686018427387905 := by have := tckr.out; rw [← hm2]; split <;> omega
    have hb2a := hb2.1
    have hb2b := hb2.2
    clear hb2
    rw [HM1.out, HM2.out] at HG
    have DN := Aside0.mk ((DB.out.set2 m1).set3 m2)
    have LX := Aside0.mk DN.out.rk.left
    dsimp only at LX
    clear c0 c1 c2 c3 c4 c5 c6 c7 c8 z0 z1 z2 z3 z4 z5 z6 z7 z8 cp
    obtain ⟨c0, c1, c2, c3, c4, c5, c6, c7, c8⟩ := DB.out.bx.cells
    obtain ⟨z0, z1, z2, z3, z4, z5, z6, z7, z8⟩ := DB.out.frozen
    have cp := DB.out.cell
    obtain ⟨d0, d1, d2, d3, d4, d5, d6, d7, d8⟩ := DN.out.bx.cells
    have dp := DN.out.cell
    go_wp2_with fail
    clear hm1 hm2
    refine LX.out.mono ?_
    rintro e wg ⟨rfl, rfl⟩
    dsimp only
    obtain ⟨lm, hlm⟩ : ∃ m : Int, (ls.length : Int) = m := ⟨_, rfl⟩
    rw [hlm]
    have HLM := Aside0.mk hlm
    clear hlm
    clear d0 d1 d2 d3 d4 d5 d6 d7 d8 dp
    clear c0 c1 c2 c3 c4 c5 c6 c7 c8 z0 z1 z2 z3 z4 z5 z6 z7 z8 cp
    generalize ((wB.setCell ⟨w.heap.size, 2, none⟩ (.int .i64 m1)).setCell ⟨w.heap.size, 3, none⟩ (.int .i64 m2)) = wn at *
    have RX := Aside0.mk (msgRight_calls ⟨k, sym, m1, m2, q4, q5, q6, q7, code⟩ wn)
    dsimp only at RX
    have DZ := Aside0.mk ((((((((((DN.out.set0 0).set1 0).set2 0).set3 0).set4 0).set5 0).set6 0).set7 0).set8 0))
    obtain ⟨c0, c1, c2, c3, c4, c5, c6, c7, c8⟩ := DN.out.bx.cells
    obtain ⟨z0, z1, z2, z3, z4, z5, z6, z7, z8⟩ := DN.out.frozen
    have cp := DN.out.cell
    by_cases hl : 0 < lm
    · rw [if_pos (.inl (by have := HLM.out; omega))] at HG
      have hll : decide (0 < lm) = true := by simpa using hl
      obtain rfl := HG.out
      go_wp2
      exact bodyPost_ret (results_ct (fn := Try.f80) (p := 2) (u := 3) (ty := 29) rfl _ _ w.heap.size 29 #[.int .i64 0, .int .i64 0, .int .i64 0, .int .i64 0, .int .i64 0, .int .i64 0, .int .i64 0, .int .i64 0, .int .i64 0] (0, 0) _ rfl DZ.out.bx Try.underlying29 rfl (by kernel_rfl)) rfl ⟨rfl, DZ.out.rk.bel⟩
    · have hll : decide (0 < lm) = false := by simpa using hl
      have HLN : Aside0 (¬ 0 < ls.length) := ⟨by have := HLM.out; omega⟩
      clear hl
      go_wp2_with fail
      refine RX.out.mono ?_
      rintro e wr ⟨rfl, hbr⟩
      have DR := Aside0.mk (DN.out.below (Below.mono hbr (Nat.le_refl _)))
      have DY := Aside0.mk ((((((((((DR.out.set0 0).set1 0).set2 0).set3 0).set4 0).set5 0).set6 0).set7 0).set8 0))
      have DW := Aside0.mk (((((((((DR.out.set0 (k)).set1 (sym)).set2 (m1)).set3 (m2)).set4 (q4)).set5 (q5)).set6 (q6)).set7 (q7)).set8 (code))
      clear hbr
      clear c0 c1 c2 c3 c4 c5 c6 c7 c8 z0 z1 z2 z3 z4 z5 z6 z7 z8 cp
      obtain ⟨c0, c1, c2, c3, c4, c5, c6, c7, c8⟩ := DR.out.bx.cells
      obtain ⟨z0, z1, z2, z3, z4, z5, z6, z7, z8⟩ := DR.out.frozen
      have cp := DR.out.cell
      cases hr : msgRight ⟨k, sym, m1, m2, q4, q5, q6, q7, code⟩ with
      | false =>
        rw [if_pos (.inr hr)] at HG
        obtain rfl := HG.out
        go_wp2
        exact bodyPost_ret (results_ct (fn := Try.f80) (p := 2) (u := 3) (ty := 29) rfl _ _ w.heap.size 29 #[.int .i64 0, .int .i64 0, .int .i64 0, .int .i64 0, .int .i64 0, .int .i64 0, .int .i64 0, .int .i64 0, .int .i64 0] (0, 0) _ rfl DY.out.bx Try.underlying29 rfl (by kernel_rfl)) rfl ⟨rfl, DY.out.rk.bel⟩
      | true =>
        rw [if_neg (by intro h; rcases h with h | h; exact HLN.out h; rw [hr] at h; cases h)] at HG
        obtain rfl := HG.out
        go_wp2
        exact bodyPost_ret (results_ct (fn := Try.f80) (p := 2) (u := 3) (ty := 29) rfl _ _ w.heap.size 29 #[.int .i64 k, .int .i64 sym, .int .i64 m1, .int .i64 m2, .int .i64 q4, .int .i64 q5, .int .i64 q6, .int .i64 q7, .int .i64 code] (0, 0) _ rfl DW.out.bx Try.underlying29 rfl (by kernel_rfl)) rfl ⟨rfl, DW.out.rk.bel⟩
  · rw [if_pos (by simpa using hf)] at HG
    have hff : (fs != 0) = true := by simpa using hf
    clear hf
    have DZ := Aside0.mk ((((((((((DB.out.set0 0).set1 0).set2 0).set3 0).set4 0).set5 0).set6 0).set7 0).set8 0))
    obtain rfl := HG.out
    go_wp2
    exact bodyPost_ret (results_ct (fn := Try.f80) (p := 2) (u := 3) (ty := 29) rfl _ _ w.heap.size 29 #[.int .i64 0, .int .i64 0, .int .i64 0, .int .i64 0, .int .i64 0, .int .i64 0, .int .i64 0, .int .i64 0, .int .i64 0] (0, 0) _ rfl DZ.out.bx Try.underlying29 rfl (by kernel_rfl)) rfl ⟨rfl, DZ.out.rk.bel⟩
def message_Decode.f (l0 : List Int) : Option (Int × Int × Int × Int × Int × Int × Int × Int × Int × Int) :=
  if bytB l0 = true ∧ l0.length ≤ 140737488355328 then some ((msgDec l0).1.f0, (msgDec l0).1.f1, (msgDec l0).1.f2, (msgDec l0).1.f3, (msgDec l0).1.f4, (msgDec l0).1.f5, (msgDec l0).1.f6, (msgDec l0).1.f7, (msgDec l0).1.f8, (msgDec l0).2) else none
theorem message_Decode.calls (A0 : Option Addr) (c0 : Nat) (l0 : List Int) (r1 r2 r3 r4 r5 r6 r7 r8 r9 r10 : Int) (w : World) (hr0 : Kd.C (Kd.int .u8) w A0 l0.length l0) (hc0 : l0.length ≤ c0) (h : message_Decode.f l0 = some (r1, r2, r3, r4, r5, r6, r7, r8, r9, r10)) :
    Calls Try.prog 80 #[.slice A0 l0.length c0] w fun e w' => e = .returned (.tuple #[.agg #[.int .i64 r1, .int .i64 r2, .int .i64 r3, .int .i64 r4, .int .i64 r5, .int .i64 r6, .int .i64 r7, .int .i64 r8, .int .i64 r9], .int .i64 r10]) ∧ Below w.heap.size w w' := by
  unfold message_Decode.f at h
  by_cases hp : bytB l0 = true ∧ l0.length ≤ 140737488355328
  · rw [if_pos hp] at h
    have h := Option.some.inj h
    simp only [Prod.mk.injEq] at h
    obtain ⟨rfl, rfl, rfl, rfl, rfl, rfl, rfl, rfl, rfl, rfl⟩ := h
    exact msgDec_calls A0 c0 l0 w hr0 hp.2 (byt_of hp.1)
  · rw [if_neg hp] at h
    cases h
end Go.Proofs.Ytalpemoodollpaa.P
/- damperref03.ReadInt. -/
namespace Go.Proofs.Ytalpemoodollpaa.P
open Go.RowKit Go.Proofs.YtalpemoodollpaaW.PrintWords Go.Proofs.YtalpemoodollpaaW.PrintLast Go.Proofs.YtalpemoodollpaaW.PrintMore
set_option linter.unusedVariables false
set_option linter.unusedSimpArgs false
theorem R_far5 {W : World} {base b : Nat} {v : Value} {xs : List Int} (h : Kd.R (Kd.int .u8) 5 W base (fun _ => True) v xs) (hb : b < base) (n s z f : Int) (u : Value) : Kd.R (Kd.int .u8) 5 (((((W.setCell ⟨b, 0, none⟩ (.int .u64 n)).setCell ⟨b, 1, none⟩ (.int .i64 s)).setCell ⟨b, 2, none⟩ u).setCell ⟨b, 3, none⟩ (.int .i64 z)).setCell ⟨b, 4, none⟩ (.int .i64 f)) base (fun _ => True) v xs := by
  have h1 : Kd.R (Kd.int .u8) 5 W base (fun k => base ≤ k) v xs := Kd.R_mono (Kd.R_bound h) (fun k hk => hk.2.1)
  exact Kd.R_mono (Kd.R_far (Kd.R_far (Kd.R_far (Kd.R_far (Kd.R_far h1 (p := ⟨b, 0, none⟩) (fun k hk => by show k ≠ b; omega) (.int .u64 n)) (p := ⟨b, 1, none⟩) (fun k hk => by show k ≠ b; omega) (.int .i64 s)) (p := ⟨b, 2, none⟩) (fun k hk => by show k ≠ b; omega) u) (p := ⟨b, 3, none⟩) (fun k hk => by show k ≠ b; omega) (.int .i64 z)) (p := ⟨b, 4, none⟩) (fun k hk => by show k ≠ b; omega) (.int .i64 f)) (fun _ _ => trivial)
theorem below_far5 {w W : World} {b : Nat} (h : Below w.heap.size w W) (hb : w.heap.size ≤ b) (n s z f : Int) (u : Value) : Below w.heap.size w (((((W.setCell ⟨b, 0, none⟩ (.int .u64 n)).setCell ⟨b, 1, none⟩ (.int .i64 s)).setCell ⟨b, 2, none⟩ u).setCell ⟨b, 3, none⟩ (.int .i64 z)).setCell ⟨b, 4, none⟩ (.int .i64 f)) := (below_set (j := 4) (v := (.int .i64 f)) (below_set (j := 3) (v := (.int .i64 z)) (below_set (j := 2) (v := u) (below_set (j := 1) (v := (.int .i64 s)) (below_set (j := 0) (v := (.int .u64 n)) h hb) hb) hb) hb) hb)
def rdInt (l : List Int) : Int × Int × List Int × Int × Int := if l.length < 8 then (0, 0, [], 0, 3) else (0, unzig (beNum (l.take 8)), [], 8, 0)
set_option maxRecDepth 100000 in
set_option maxHeartbeats 2000000 in
theorem refReadInt_calls (A0 : Option Addr) (c0 : Nat) (l0 : List Int) (w : World) (hr0 : Kd.C (Kd.int .u8) w A0 l0.length l0) (hc0 : l0.length ≤ c0) (hb : Byt l0) :
    Calls Try.prog 114 #[.slice A0 l0.length c0] w fun e w' => ∃ v : Value, e = .returned (.agg #[.int .u64 0, .int .i64 (rdInt l0).2.1, v, .int .i64 (rdInt l0).2.2.2.1, .int .i64 (rdInt l0).2.2.2.2]) ∧ Kd.R (Kd.int .u8) 5 w' w.heap.size (fun _ => True) v [] ∧ Below w.heap.size w w' := by
  have hU := refReadUint l0 8 hb 12 (by omega)
  have HU : Aside0 (∃ n S z f : Int, rdInt l0 = (0, S, [], z, f) ∧ rdUint l0 8 = (n, 0, [], z, f) ∧ 0 ≤ n ∧ n < 18446744073709551616 ∧ S = unzig n) := ⟨by
    unfold rdInt rdUint
    rw [if_neg (show ¬ ((8 : Int) < 1 ∨ (8 : Int) < 8) by decide)]
    by_cases h : l0.length < 8
    · rw [if_pos h, if_pos (show (l0.length : Int) < 8 by omega)]
      exact ⟨0, 0, 0, 3, rfl, rfl, by omega, by omega, by decide⟩
    · rw [if_neg h, if_neg (show ¬ (l0.length : Int) < 8 by omega)]
      have hrg := beNum_range (l0.take 8) (hb.take 8)
      rw [show (l0.take 8).length = 8 by rw [List.length_take]; omega] at hrg
      have h2 : ((256 ^ 8 : Nat) : Int) = 18446744073709551616 := by decide
      rw [h2] at hrg
      exact ⟨_, _, _, _, rfl, rfl, hrg.1, hrg.2, rfl⟩⟩
  obtain ⟨n, S, z, f, hI, hN, h0, h1, hS⟩ := HU.out
  rw [hN] at hU
  rw [hI]
  have HX := Aside0.mk hU
  have HR := Aside0.mk hr0
  have HC := Aside0.mk hc0
  have HNN := Aside0.mk (And.intro h0 h1)
  have HS := Aside0.mk hS
  clear hU hI hN HU hr0 hc0 hb h0 h1 hS
  have HB0 := Aside0.mk (show Box5 (w.alloc (.cells #[.int .u64 0, .int .i64 0, .slice none 0 0, .int .i64 0, .int .i64 0] 81)) w.heap.size 0 0 (.slice none 0 0) 0 0 from blk_new w _)
  have HR1 := Aside0.mk (Kd.C_alloc HR.out (.cells #[.int .u64 0, .int .i64 0, .slice none 0 0, .int .i64 0, .int .i64 0] 81))
  have HL0 := Aside0.mk (below_alloc (Below.refl w.heap.size w) (.cells #[.int .u64 0, .int .i64 0, .slice none 0 0, .int .i64 0, .int .i64 0] 81))
  have hX := damperref03_ReadUint.calls 12 A0 c0 l0 8 n 0 [] z f _ HR1.out HC.out HX.out
  go_enter Try.func114, Try.ntmps114
  go_wp2_with fail
  refine hX.mono ?_
  rintro e w1 ⟨v, rfl, hR, hbl⟩
  obtain ⟨A, c, rfl⟩ := Kd.R_slice hR
  have HB1 : Aside0 (Box5 w1 w.heap.size 0 0 (.slice none 0 0) 0 0) := ⟨(hbl.block _ (blk_lt HB0.out)).trans HB0.out⟩
  have HRR := Aside0.mk hR
  have HL1 := Aside0.mk (Below.trans HL0.out (Below.mono hbl HL0.out.size))
  clear hR hbl hX HB0 HR1 HL0
  have hb1 := fun o => (show Box5 (w1.alloc o) w.heap.size 0 0 (.slice none 0 0) 0 0 from blk_alloc HB1.out o)
  have d0 := fun o => (hb1 o).cells.1
  have d1 := fun o => (hb1 o).cells.2.1
  have d2 := fun o => (hb1 o).cells.2.2.1
  have d3 := fun o => (hb1 o).cells.2.2.2.1
  have d4 := fun o => (hb1 o).cells.2.2.2.2
  have y0 := fun o => blk_frozen (hb1 o) 0
  have y1 := fun o => blk_frozen (hb1 o) 1
  have y2 := fun o => blk_frozen (hb1 o) 2
  have y3 := fun o => blk_frozen (hb1 o) 3
  have y4 := fun o => blk_frozen (hb1 o) 4
  clear hb1
  have ht : Int.tmod n 2 = n % 2 := Int.tmod_eq_emod_of_nonneg HNN.out.1
  have hd : Int.tdiv n 2 = n / 2 := Int.tdiv_eq_ediv_of_nonneg HNN.out.1
  by_cases hev : n % 2 = 0
  · skip
    have hS : S = wrap64 (IntKind.u64.wrap (n / 2)) := by
      have h := HS.out
      unfold unzig at h
      rw [h]
      rw [if_pos hev, wrap_u64, wrap64_eq]
      have := HNN.out
      omega
    have hsz : (w.alloc (.cells #[.int .u64 0, .int .i64 0, .slice none 0 0, .int .i64 0, .int .i64 0] 81)).heap.size = w.heap.size + 1 := World.size_alloc _ _
    have HBX := Aside0.mk (show Box5 (w1.alloc (.cells #[.int .u64 0, .int .i64 (wrap64 (IntKind.u64.wrap (n / 2))), .slice A ([] : List Int).length c, .int .i64 z, .int .i64 f] 81)) w.heap.size 0 0 (.slice none 0 0) 0 0 from blk_alloc HB1.out _)
    have HBY := Aside0.mk (HBX.out.set5 0 (wrap64 (IntKind.u64.wrap (n / 2))) z f (.slice A ([] : List Int).length c))
    have HRY := Aside0.mk (R_far5 (Kd.R_alloc HRR.out (.cells #[.int .u64 0, .int .i64 (wrap64 (IntKind.u64.wrap (n / 2))), .slice A ([] : List Int).length c, .int .i64 z, .int .i64 f] 81)) (b := w.heap.size) (by omega) 0 (wrap64 (IntKind.u64.wrap (n / 2))) z f (.slice A ([] : List Int).length c))
    have HLY := Aside0.mk (below_far5 (below_alloc HL1.out (.cells #[.int .u64 0, .int .i64 (wrap64 (IntKind.u64.wrap (n / 2))), .slice A ([] : List Int).length c, .int .i64 z, .int .i64 f] 81)) (Nat.le_refl w.heap.size) 0 (wrap64 (IntKind.u64.wrap (n / 2))) z f (.slice A ([] : List Int).length c))
    have HSS := Aside0.mk hS
    clear hS hsz
    go_wp2
    refine bodyPost_ret (results_cell_row (fn := Try.f114) (p := 2) (ty := 81) rfl _ _ w.heap.size 81 #[.int .u64 0, .int .i64 (wrap64 (IntKind.u64.wrap (n / 2))), .slice A ([] : List Int).length c, .int .i64 z, .int .i64 f] (0, 0) _ rfl HBY.out Try.underlying81 rfl (by kernel_rfl)) rfl ?_
    refine ⟨_, by rw [HSS.out], Kd.R_lower HRY.out (by rw [World.size_alloc]; omega), HLY.out⟩
  · skip
    have hS : S = wrap64 (wrap64 (-wrap64 (IntKind.u64.wrap (n / 2))) - 1) := by
      have h := HS.out
      unfold unzig at h
      rw [h]
      rw [if_neg hev, wrap_u64, wrap64_eq, wrap64_eq, wrap64_eq]
      have := HNN.out
      omega
    have hsz : (w.alloc (.cells #[.int .u64 0, .int .i64 0, .slice none 0 0, .int .i64 0, .int .i64 0] 81)).heap.size = w.heap.size + 1 := World.size_alloc _ _
    have HBX := Aside0.mk (show Box5 (w1.alloc (.cells #[.int .u64 0, .int .i64 (wrap64 (wrap64 (-wrap64 (IntKind.u64.wrap (n / 2))) - 1)), .slice A ([] : List Int).length c, .int .i64 z, .int .i64 f] 81)) w.heap.size 0 0 (.slice none 0 0) 0 0 from blk_alloc HB1.out _)
    have HBY := Aside0.mk (HBX.out.set5 0 (wrap64 (wrap64 (-wrap64 (IntKind.u64.wrap (n / 2))) - 1)) z f (.slice A ([] : List Int).length c))
    have HRY := Aside0.mk (R_far5 (Kd.R_alloc HRR.out (.cells #[.int .u64 0, .int .i64 (wrap64 (wrap64 (-wrap64 (IntKind.u64.wrap (n / 2))) - 1)), .slice A ([] : List Int).length c, .int .i64 z, .int .i64 f] 81)) (b := w.heap.size) (by omega) 0 (wrap64 (wrap64 (-wrap64 (IntKind.u64.wrap (n / 2))) - 1)) z f (.slice A ([] : List Int).length c))
    have HLY := Aside0.mk (below_far5 (below_alloc HL1.out (.cells #[.int .u64 0, .int .i64 (wrap64 (wrap64 (-wrap64 (IntKind.u64.wrap (n / 2))) - 1)), .slice A ([] : List Int).length c, .int .i64 z, .int .i64 f] 81)) (Nat.le_refl w.heap.size) 0 (wrap64 (wrap64 (-wrap64 (IntKind.u64.wrap (n / 2))) - 1)) z f (.slice A ([] : List Int).length c))
    have HSS := Aside0.mk hS
    clear hS hsz
    go_wp2
    refine bodyPost_ret (results_cell_row (fn := Try.f114) (p := 2) (ty := 81) rfl _ _ w.heap.size 81 #[.int .u64 0, .int .i64 (wrap64 (wrap64 (-wrap64 (IntKind.u64.wrap (n / 2))) - 1)), .slice A ([] : List Int).length c, .int .i64 z, .int .i64 f] (0, 0) _ rfl HBY.out Try.underlying81 rfl (by kernel_rfl)) rfl ?_
    refine ⟨_, by rw [HSS.out], Kd.R_lower HRY.out (by rw [World.size_alloc]; omega), HLY.out⟩
end Go.Proofs.Ytalpemoodollpaa.P
/- damperref03.ReadRaw, damperlaw03.read. -/
namespace Go.Proofs.Ytalpemoodollpaa.P
open Go.RowKit Go.Proofs.YtalpemoodollpaaW.PrintWords Go.Proofs.YtalpemoodollpaaW.PrintLast Go.Proofs.YtalpemoodollpaaW.PrintMore
set_option linter.unusedVariables false
set_option linter.unusedSimpArgs false
/-- What ReadRaw tells. -/
def rdRaw (l : List Int) (n : Int) : Int × Int × List Int × Int × Int := if n < 0 then (0, 0, [], 0, 0) else if (l.length : Int) < n then (0, 0, [], 0, 3) else (0, 0, l.take n.toNat, n, 0)
set_option maxRecDepth 100000 in
set_option maxHeartbeats 2000000 in
theorem refReadRaw_calls (A0 : Option Addr) (c0 : Nat) (l0 : List Int) (n : Int) (w : World) (hr0 : Kd.C (Kd.int .u8) w A0 l0.length l0) (hc0 : l0.length ≤ c0) :
    Calls Try.prog 116 #[.slice A0 l0.length c0, .int .i64 n] w fun e w' => ∃ A c, e = .returned (.agg #[.int .u64 (rdRaw l0 n).1, .int .i64 (rdRaw l0 n).2.1, .slice A (rdRaw l0 n).2.2.1.length c, .int .i64 (rdRaw l0 n).2.2.2.1, .int .i64 (rdRaw l0 n).2.2.2.2]) ∧
      (rdRaw l0 n).2.2.1.length ≤ c ∧ (A = A0 ∨ (rdRaw l0 n).2.2.1 = []) ∧ Below w.heap.size w w' := by
  generalize hG : rdRaw l0 n = G
  unfold rdRaw at hG
  have HR := Aside0.mk hr0
  have HC := Aside0.mk hc0
  have HG := Aside0.mk hG
  clear hr0 hG
  by_cases h0 : n < 0
  · have HF : Aside0 (G = (0, 0, [], 0, 0)) := ⟨by have h := HG.out; rw [if_pos h0] at h; exact h.symm⟩
    clear HG
    have HBX := Aside0.mk (show Box5 (w.alloc (.cells #[.int .u64 0, .int .i64 0, .slice none 0 0, .int .i64 0, .int .i64 0] 81)) w.heap.size 0 0 (.slice none 0 0) 0 0 from blk_new w _)
    have HLX := Aside0.mk (below_alloc (Below.refl w.heap.size w) (.cells #[.int .u64 0, .int .i64 0, .slice none 0 0, .int .i64 0, .int .i64 0] 81))
    go_enter Try.func116, Try.ntmps116
    go_wp2
    refine bodyPost_ret (results_cell_row (fn := Try.f116) (p := 4) (ty := 81) rfl _ _ w.heap.size 81 #[.int .u64 0, .int .i64 0, .slice none 0 0, .int .i64 0, .int .i64 0] (0, 0) _ rfl HBX.out Try.underlying81 rfl (by kernel_rfl)) rfl ?_
    obtain rfl := HF.out
    exact ⟨none, 0, rfl, Nat.le_refl _, .inr rfl, HLX.out⟩
  · by_cases h1 : (l0.length : Int) < n
    · have HF : Aside0 (G = (0, 0, [], 0, 3)) := ⟨by have h := HG.out; rw [if_neg h0, if_pos h1] at h; exact h.symm⟩
      clear HG
      have HBX := Aside0.mk (show Box5 (w.alloc (.cells #[.int .u64 0, .int .i64 0, .slice none 0 0, .int .i64 0, .int .i64 3] 81)) w.heap.size 0 0 (.slice none 0 0) 0 3 from blk_new w _)
      have HLX := Aside0.mk (below_alloc (Below.refl w.heap.size w) (.cells #[.int .u64 0, .int .i64 0, .slice none 0 0, .int .i64 0, .int .i64 3] 81))
      go_enter Try.func116, Try.ntmps116
      go_wp2
      refine bodyPost_ret (results_cell_row (fn := Try.f116) (p := 4) (ty := 81) rfl _ _ w.heap.size 81 #[.int .u64 0, .int .i64 0, .slice none 0 0, .int .i64 0, .int .i64 3] (0, 0) _ rfl HBX.out Try.underlying81 rfl (by kernel_rfl)) rfl ?_
      obtain rfl := HF.out
      exact ⟨none, 0, rfl, Nat.le_refl _, .inr rfl, HLX.out⟩
    · obtain ⟨m, rfl⟩ := Int.eq_ofNat_of_zero_le (show 0 ≤ n by omega)
      have HF : Aside0 (G = (0, 0, l0.take m, (m : Int), 0)) := ⟨by have h := HG.out; rw [if_neg h0, if_neg h1] at h; exact h.symm⟩
      have hml : m ≤ l0.length := by omega
      have HML := Aside0.mk hml
      clear HG h0
      have HBX := Aside0.mk (show Box5 (w.alloc (.cells #[.int .u64 0, .int .i64 0, .slice A0 m c0, .int .i64 (m : Int), .int .i64 0] 81)) w.heap.size 0 0 (.slice A0 m c0) (m : Int) 0 from blk_new w _)
      have HLX := Aside0.mk (below_alloc (Below.refl w.heap.size w) (.cells #[.int .u64 0, .int .i64 0, .slice A0 m c0, .int .i64 (m : Int), .int .i64 0] 81))
      have HCC := Aside0.mk (Kd.C_take (Kd.C_alloc HR.out (.cells #[.int .u64 0, .int .i64 0, .slice A0 m c0, .int .i64 (m : Int), .int .i64 0] 81)) hml)
      go_enter Try.func116, Try.ntmps116
      go_wp2
      refine bodyPost_ret (results_cell_row (fn := Try.f116) (p := 4) (ty := 81) rfl _ _ w.heap.size 81 #[.int .u64 0, .int .i64 0, .slice A0 m c0, .int .i64 (m : Int), .int .i64 0] (0, 0) _ rfl HBX.out Try.underlying81 rfl (by kernel_rfl)) rfl ?_
      obtain rfl := HF.out
      have hlen : (l0.take m).length = m := by rw [List.length_take]; have := HML.out; omega
      refine ⟨A0, c0, by rw [hlen], by rw [hlen]; have := HML.out; have := HC.out; omega, .inl rfl, HLX.out⟩
theorem C_empty (W : World) (A : Option Addr) : Kd.C (Kd.int .u8) W A ([] : List Int).length [] := ⟨rfl, by simp, fun h => absurd h (Nat.lt_irrefl 0)⟩
/-- What law03.read tells. -/
def readF (l : List Int) (p : S49) : Int × Int × List Int × Int × Int :=
  if p.f0 = 1 then rdUint l p.f1 else if p.f0 = 2 then rdInt l else if p.f0 = 3 then fin3 l (numGo 10 0 0 l) else if p.f0 = 4 then rdRaw l p.f1 else (0, 0, [], 0, 0)
def RD (fn : Nat) (args : Array Value) (W : World) (A0 : Option Addr) (T : Int × Int × List Int × Int × Int) : Prop :=
  Calls Try.prog fn args W fun e w' => ∃ A c, e = .returned (.agg #[.int .u64 T.1, .int .i64 T.2.1, .slice A T.2.2.1.length c, .int .i64 T.2.2.2.1, .int .i64 T.2.2.2.2]) ∧ T.2.2.1.length ≤ c ∧ (A = A0 ∨ T.2.2.1 = []) ∧ Below W.heap.size W w'
theorem rdUint_raw (l : List Int) (s : Int) : (rdUint l s).2.2.1 = [] := by unfold rdUint; split; rfl; split <;> rfl
theorem fin3_raw (l : List Int) (r : Int × (List Int × Int)) : (fin3 l r).2.2.1 = [] := by unfold fin3; split <;> rfl
theorem rdInt_raw (l : List Int) : (rdInt l).2.2.1 = [] ∧ (rdInt l).1 = 0 := by unfold rdInt; split <;> exact ⟨rfl, rfl⟩
theorem RD.uint (A0 : Option Addr) (c0 : Nat) (l : List Int) (s : Int) (w : World) (hr : Kd.C (Kd.int .u8) w A0 l.length l) (hc : l.length ≤ c0) (hb : Byt l) : RD 106 #[.slice A0 l.length c0, .int .i64 s] w A0 (rdUint l s) := by
  refine (damperref03_ReadUint.calls 12 A0 c0 l s _ _ _ _ _ w hr hc (refReadUint l s hb 12 (by omega))).mono ?_
  rintro e w' ⟨v, rfl, hR, hbl⟩
  obtain ⟨A, c, rfl, hq, _⟩ := Kd.R_reads hR
  exact ⟨A, c, rfl, hq, .inr (rdUint_raw l s), hbl⟩
theorem RD.num (A0 : Option Addr) (c0 : Nat) (l : List Int) (w : World) (hr : Kd.C (Kd.int .u8) w A0 l.length l) (hc : l.length ≤ c0) (hb : Byt l) (hl : l.length ≤ 140737488355328) : RD 115 #[.slice A0 l.length c0] w A0 (fin3 l (numGo 10 0 0 l)) := by
  refine (damperref03_ReadNum.calls 21 A0 c0 l _ _ _ _ _ w hr hc (refReadNum l hb hl 21 (by omega))).mono ?_
  rintro e w' ⟨v, rfl, hR, hbl⟩
  obtain ⟨A, c, rfl, hq, _⟩ := Kd.R_reads hR
  exact ⟨A, c, rfl, hq, .inr (fin3_raw l _), hbl⟩
theorem RD.int (A0 : Option Addr) (c0 : Nat) (l : List Int) (w : World) (hr : Kd.C (Kd.int .u8) w A0 l.length l) (hc : l.length ≤ c0) (hb : Byt l) : RD 114 #[.slice A0 l.length c0] w A0 (rdInt l) := by
  refine (refReadInt_calls A0 c0 l w hr hc hb).mono ?_
  rintro e w' ⟨v, rfl, hR, hbl⟩
  obtain ⟨A, c, rfl, hq, _⟩ := Kd.R_reads hR
  exact ⟨A, c, by rw [(rdInt_raw l).1, (rdInt_raw l).2], by rw [(rdInt_raw l).1]; exact hq, .inr (rdInt_raw l).1, hbl⟩
set_option maxRecDepth 100000 in
set_option maxHeartbeats 4000000 in
theorem law03_read_calls (B : Option Addr) (m : Nat) (l : List Int) (p : S49) (A : Option Addr) (c : Nat) (w : World) (hr : Kd.C (Kd.int .u8) w B l.length l) (hm : l.length ≤ m) (hb : Byt l) (hl : l.length ≤ 140737488355328) :
    RD 61 #[.slice B l.length m, .agg #[.int .i64 p.f0, .int .i64 p.f1, .int .u64 p.f2, .int .i64 p.f3, .slice A p.f4.length c]] w B (readF l p) := by
  unfold RD
  obtain ⟨f0, f1, f2, f3, f4⟩ := p
  generalize hG : readF l ⟨f0, f1, f2, f3, f4⟩ = G
  unfold readF at hG
  dsimp only at *
  by_cases h1 : f0 = 1
  · rw [if_pos h1] at hG
    subst h1
    have hx : RD 106 #[.slice B l.length m, .int .i64 f1] ((w.alloc (.cells #[.int .i64 1, .int .i64 f1, .int .u64 f2, .int .i64 f3, .slice A f4.length c] 49)).alloc (.cells #[.int .u64 0, .int .i64 0, .slice none 0 0, .int .i64 0, .int .i64 0] 81)) B (rdUint l f1) := RD.uint B m l f1 _ (Kd.C_alloc (Kd.C_alloc hr _) _) hm hb
    rw [hG] at hx
    have HX := Aside0.mk hx
    have HB := Aside0.mk (show Box5 ((w.alloc (.cells #[.int .i64 1, .int .i64 f1, .int .u64 f2, .int .i64 f3, .slice A f4.length c] 49)).alloc (.cells #[.int .u64 0, .int .i64 0, .slice none 0 0, .int .i64 0, .int .i64 0] 81)) (w.heap.size + 1) 0 0 (.slice none 0 0) 0 0 from by
      have := blk_new (w.alloc (.cells #[.int .i64 1, .int .i64 f1, .int .u64 f2, .int .i64 f3, .slice A f4.length c] 49)) (.cells #[.int .u64 0, .int .i64 0, .slice none 0 0, .int .i64 0, .int .i64 0] 81)
      rw [World.size_alloc] at this
      exact this)
    have HL := Aside0.mk (below_alloc (below_alloc (Below.refl w.heap.size w) (.cells #[.int .i64 1, .int .i64 f1, .int .u64 f2, .int .i64 f3, .slice A f4.length c] 49)) (.cells #[.int .u64 0, .int .i64 0, .slice none 0 0, .int .i64 0, .int .i64 0] 81))
    clear hG hr hm hb hl hx
    go_enter Try.func61, Try.ntmps61
    go_wp2_with fail
    refine HX.out.mono ?_
    rintro e w1 ⟨X, x, rfl, hq, hX, hbl⟩
    obtain ⟨tn, ts, tr, tz, tf⟩ := G
    have HB1 : Aside0 (Box5 w1 (w.heap.size + 1) 0 0 (.slice none 0 0) 0 0) := ⟨(hbl.block _ (blk_lt HB.out)).trans HB.out⟩
    have HL1 := Aside0.mk (Below.trans HL.out (Below.mono hbl HL.out.size))
    have HB2 := Aside0.mk (HB1.out.set5 tn ts tz tf (.slice X tr.length x))
    have HL2 := Aside0.mk (below_far5 HL1.out (b := w.heap.size + 1) (by omega) tn ts tz tf (.slice X tr.length x))
    have HQ := Aside0.mk hq
    have HXX := Aside0.mk hX
    clear hbl hq hX HX HB HL
    obtain ⟨d0, d1, d2, d3, d4⟩ := HB1.out.cells
    have y0 := blk_frozen HB1.out 0
    have y1 := blk_frozen HB1.out 1
    have y2 := blk_frozen HB1.out 2
    have y3 := blk_frozen HB1.out 3
    have y4 := blk_frozen HB1.out 4
    go_wp2
    refine bodyPost_ret (results_cell_row (fn := Try.f61) (p := 4) (ty := 81) rfl _ _ (w.heap.size + 1) 81 #[.int .u64 tn, .int .i64 ts, .slice X tr.length x, .int .i64 tz, .int .i64 tf] (0, 0) _ rfl HB2.out Try.underlying81 rfl (by kernel_rfl)) rfl ?_
    exact ⟨X, x, rfl, HQ.out, HXX.out, HL2.out⟩
  · by_cases h2 : f0 = 2
    · rw [if_neg h1, if_pos h2] at hG
      clear h1
      subst h2
      have hx : RD 114 #[.slice B l.length m] ((w.alloc (.cells #[.int .i64 2, .int .i64 f1, .int .u64 f2, .int .i64 f3, .slice A f4.length c] 49)).alloc (.cells #[.int .u64 0, .int .i64 0, .slice none 0 0, .int .i64 0, .int .i64 0] 81)) B (rdInt l) := RD.int B m l _ (Kd.C_alloc (Kd.C_alloc hr _) _) hm hb
      rw [hG] at hx
      have HX := Aside0.mk hx
      have HB := Aside0.mk (show Box5 ((w.alloc (.cells #[.int .i64 2, .int .i64 f1, .int .u64 f2, .int .i64 f3, .slice A f4.length c] 49)).alloc (.cells #[.int .u64 0, .int .i64 0, .slice none 0 0, .int .i64 0, .int .i64 0] 81)) (w.heap.size + 1) 0 0 (.slice none 0 0) 0 0 from by
        have := blk_new (w.alloc (.cells #[.int .i64 2, .int .i64 f1, .int .u64 f2, .int .i64 f3, .slice A f4.length c] 49)) (.cells #[.int .u64 0, .int .i64 0, .slice none 0 0, .int .i64 0, .int .i64 0] 81)
        rw [World.size_alloc] at this
        exact this)
      have HL := Aside0.mk (below_alloc (below_alloc (Below.refl w.heap.size w) (.cells #[.int .i64 2, .int .i64 f1, .int .u64 f2, .int .i64 f3, .slice A f4.length c] 49)) (.cells #[.int .u64 0, .int .i64 0, .slice none 0 0, .int .i64 0, .int .i64 0] 81))
      clear hG hr hm hb hl hx
      go_enter Try.func61, Try.ntmps61
      go_wp2_with fail
      refine HX.out.mono ?_
      rintro e w1 ⟨X, x, rfl, hq, hX, hbl⟩
      obtain ⟨tn, ts, tr, tz, tf⟩ := G
      have HB1 : Aside0 (Box5 w1 (w.heap.size + 1) 0 0 (.slice none 0 0) 0 0) := ⟨(hbl.block _ (blk_lt HB.out)).trans HB.out⟩
      have HL1 := Aside0.mk (Below.trans HL.out (Below.mono hbl HL.out.size))
      have HB2 := Aside0.mk (HB1.out.set5 tn ts tz tf (.slice X tr.length x))
      have HL2 := Aside0.mk (below_far5 HL1.out (b := w.heap.size + 1) (by omega) tn ts tz tf (.slice X tr.length x))
      have HQ := Aside0.mk hq
      have HXX := Aside0.mk hX
      clear hbl hq hX HX HB HL
      obtain ⟨d0, d1, d2, d3, d4⟩ := HB1.out.cells
      have y0 := blk_frozen HB1.out 0
      have y1 := blk_frozen HB1.out 1
      have y2 := blk_frozen HB1.out 2
      have y3 := blk_frozen HB1.out 3
      have y4 := blk_frozen HB1.out 4
      go_wp2
      refine bodyPost_ret (results_cell_row (fn := Try.f61) (p := 4) (ty := 81) rfl _ _ (w.heap.size + 1) 81 #[.int .u64 tn, .int .i64 ts, .slice X tr.length x, .int .i64 tz, .int .i64 tf] (0, 0) _ rfl HB2.out Try.underlying81 rfl (by kernel_rfl)) rfl ?_
      exact ⟨X, x, rfl, HQ.out, HXX.out, HL2.out⟩
    · by_cases h3 : f0 = 3
      · rw [if_neg h1, if_neg h2, if_pos h3] at hG
        clear h1 h2
        subst h3
        have hx : RD 115 #[.slice B l.length m] ((w.alloc (.cells #[.int .i64 3, .int .i64 f1, .int .u64 f2, .int .i64 f3, .slice A f4.length c] 49)).alloc (.cells #[.int .u64 0, .int .i64 0, .slice none 0 0, .int .i64 0, .int .i64 0] 81)) B (fin3 l (numGo 10 0 0 l)) := RD.num B m l _ (Kd.C_alloc (Kd.C_alloc hr _) _) hm hb hl
        rw [hG] at hx
        have HX := Aside0.mk hx
        have HB := Aside0.mk (show Box5 ((w.alloc (.cells #[.int .i64 3, .int .i64 f1, .int .u64 f2, .int .i64 f3, .slice A f4.length c] 49)).alloc (.cells #[.int .u64 0, .int .i64 0, .slice none 0 0, .int .i64 0, .int .i64 0] 81)) (w.heap.size + 1) 0 0 (.slice none 0 0) 0 0 from by
          have := blk_new (w.alloc (.cells #[.int .i64 3, .int .i64 f1, .int .u64 f2, .int .i64 f3, .slice A f4.length c] 49)) (.cells #[.int .u64 0, .int .i64 0, .slice none 0 0, .int .i64 0, .int .i64 0] 81)
          rw [World.size_alloc] at this
          exact this)
        have HL := Aside0.mk (below_alloc (below_alloc (Below.refl w.heap.size w) (.cells #[.int .i64 3, .int .i64 f1, .int .u64 f2, .int .i64 f3, .slice A f4.length c] 49)) (.cells #[.int .u64 0, .int .i64 0, .slice none 0 0, .int .i64 0, .int .i64 0] 81))
        clear hG hr hm hb hl hx
        go_enter Try.func61, Try.ntmps61
        go_wp2_with fail
        refine HX.out.mono ?_
        rintro e w1 ⟨X, x, rfl, hq, hX, hbl⟩
        obtain ⟨tn, ts, tr, tz, tf⟩ := G
        have HB1 : Aside0 (Box5 w1 (w.heap.size + 1) 0 0 (.slice none 0 0) 0 0) := ⟨(hbl.block _ (blk_lt HB.out)).trans HB.out⟩
        have HL1 := Aside0.mk (Below.trans HL.out (Below.mono hbl HL.out.size))
        have HB2 := Aside0.mk (HB1.out.set5 tn ts tz tf (.slice X tr.length x))
        have HL2 := Aside0.mk (below_far5 HL1.out (b := w.heap.size + 1) (by omega) tn ts tz tf (.slice X tr.length x))
        have HQ := Aside0.mk hq
        have HXX := Aside0.mk hX
        clear hbl hq hX HX HB HL
        obtain ⟨d0, d1, d2, d3, d4⟩ := HB1.out.cells
        have y0 := blk_frozen HB1.out 0
        have y1 := blk_frozen HB1.out 1
        have y2 := blk_frozen HB1.out 2
        have y3 := blk_frozen HB1.out 3
        have y4 := blk_frozen HB1.out 4
        go_wp2
        refine bodyPost_ret (results_cell_row (fn := Try.f61) (p := 4) (ty := 81) rfl _ _ (w.heap.size + 1) 81 #[.int .u64 tn, .int .i64 ts, .slice X tr.length x, .int .i64 tz, .int .i64 tf] (0, 0) _ rfl HB2.out Try.underlying81 rfl (by kernel_rfl)) rfl ?_
        exact ⟨X, x, rfl, HQ.out, HXX.out, HL2.out⟩
      · by_cases h4 : f0 = 4
        · rw [if_neg h1, if_neg h2, if_neg h3, if_pos h4] at hG
          clear h1 h2 h3
          subst h4
          have hx : RD 116 #[.slice B l.length m, .int .i64 f1] ((w.alloc (.cells #[.int .i64 4, .int .i64 f1, .int .u64 f2, .int .i64 f3, .slice A f4.length c] 49)).alloc (.cells #[.int .u64 0, .int .i64 0, .slice none 0 0, .int .i64 0, .int .i64 0] 81)) B (rdRaw l f1) := refReadRaw_calls B m l f1 _ (Kd.C_alloc (Kd.C_alloc hr _) _) hm
          rw [hG] at hx
          have HX := Aside0.mk hx
          have HB := Aside0.mk (show Box5 ((w.alloc (.cells #[.int .i64 4, .int .i64 f1, .int .u64 f2, .int .i64 f3, .slice A f4.length c] 49)).alloc (.cells #[.int .u64 0, .int .i64 0, .slice none 0 0, .int .i64 0, .int .i64 0] 81)) (w.heap.size + 1) 0 0 (.slice none 0 0) 0 0 from by
            have := blk_new (w.alloc (.cells #[.int .i64 4, .int .i64 f1, .int .u64 f2, .int .i64 f3, .slice A f4.length c] 49)) (.cells #[.int .u64 0, .int .i64 0, .slice none 0 0, .int .i64 0, .int .i64 0] 81)
            rw [World.size_alloc] at this
            exact this)
          have HL := Aside0.mk (below_alloc (below_alloc (Below.refl w.heap.size w) (.cells #[.int .i64 4, .int .i64 f1, .int .u64 f2, .int .i64 f3, .slice A f4.length c] 49)) (.cells #[.int .u64 0, .int .i64 0, .slice none 0 0, .int .i64 0, .int .i64 0] 81))
          clear hG hr hm hb hl hx
          go_enter Try.func61, Try.ntmps61
          go_wp2_with fail
          refine HX.out.mono ?_
          rintro e w1 ⟨X, x, rfl, hq, hX, hbl⟩
          obtain ⟨tn, ts, tr, tz, tf⟩ := G
          have HB1 : Aside0 (Box5 w1 (w.heap.size + 1) 0 0 (.slice none 0 0) 0 0) := ⟨(hbl.block _ (blk_lt HB.out)).trans HB.out⟩
          have HL1 := Aside0.mk (Below.trans HL.out (Below.mono hbl HL.out.size))
          have HB2 := Aside0.mk (HB1.out.set5 tn ts tz tf (.slice X tr.length x))
          have HL2 := Aside0.mk (below_far5 HL1.out (b := w.heap.size + 1) (by omega) tn ts tz tf (.slice X tr.length x))
          have HQ := Aside0.mk hq
          have HXX := Aside0.mk hX
          clear hbl hq hX HX HB HL
          obtain ⟨d0, d1, d2, d3, d4⟩ := HB1.out.cells
          have y0 := blk_frozen HB1.out 0
          have y1 := blk_frozen HB1.out 1
          have y2 := blk_frozen HB1.out 2
          have y3 := blk_frozen HB1.out 3
          have y4 := blk_frozen HB1.out 4
          go_wp2
          refine bodyPost_ret (results_cell_row (fn := Try.f61) (p := 4) (ty := 81) rfl _ _ (w.heap.size + 1) 81 #[.int .u64 tn, .int .i64 ts, .slice X tr.length x, .int .i64 tz, .int .i64 tf] (0, 0) _ rfl HB2.out Try.underlying81 rfl (by kernel_rfl)) rfl ?_
          exact ⟨X, x, rfl, HQ.out, HXX.out, HL2.out⟩
        · rw [if_neg h1, if_neg h2, if_neg h3, if_neg h4] at hG
          subst hG
          have HB := Aside0.mk (show Box5 ((w.alloc (.cells #[.int .i64 f0, .int .i64 f1, .int .u64 f2, .int .i64 f3, .slice A f4.length c] 49)).alloc (.cells #[.int .u64 0, .int .i64 0, .slice none 0 0, .int .i64 0, .int .i64 0] 81)) (w.heap.size + 1) 0 0 (.slice none 0 0) 0 0 from by
            have := blk_new (w.alloc (.cells #[.int .i64 f0, .int .i64 f1, .int .u64 f2, .int .i64 f3, .slice A f4.length c] 49)) (.cells #[.int .u64 0, .int .i64 0, .slice none 0 0, .int .i64 0, .int .i64 0] 81)
            rw [World.size_alloc] at this
            exact this)
          have HL := Aside0.mk (below_alloc (below_alloc (Below.refl w.heap.size w) (.cells #[.int .i64 f0, .int .i64 f1, .int .u64 f2, .int .i64 f3, .slice A f4.length c] 49)) (.cells #[.int .u64 0, .int .i64 0, .slice none 0 0, .int .i64 0, .int .i64 0] 81))
          clear hr hm hb hl
          go_enter Try.func61, Try.ntmps61
          go_wp2
          refine bodyPost_ret (results_cell_row (fn := Try.f61) (p := 4) (ty := 81) rfl _ _ (w.heap.size + 1) 81 #[.int .u64 0, .int .i64 0, .slice none 0 0, .int .i64 0, .int .i64 0] (0, 0) _ rfl HB.out Try.underlying81 rfl (by kernel_rfl)) rfl ?_
          first | exact ⟨none, 0, rfl, Nat.le_refl _, .inr rfl, HL.out⟩ | exact ⟨none, 0, rfl, Nat.le_refl _, .inr trivial, HL.out⟩ | exact ⟨none, 0, by simp, by simp, by simp, HL.out⟩
end Go.Proofs.Ytalpemoodollpaa.P
/- The walk of OctetsApart. -/
namespace Go.Proofs.Ytalpemoodollpaa.P
open Go.RowKit Go.Proofs.YtalpemoodollpaaW.PrintWords Go.Proofs.YtalpemoodollpaaW.PrintLast Go.Proofs.YtalpemoodollpaaW.PrintMore
set_option linter.unusedVariables false
set_option linter.unusedSimpArgs false

/-- What stays told of a slice that is read while a writer is written. -/
theorem WPost.C {w w1 : World} {g : Nat} {row : Option Nat} {ys : List Int} (h : WPost w g row ys w1) {A : Option Addr} {xs : List Int} (hc : Kd.C (Kd.int .u8) w A xs.length xs) (hg : ∀ k, A.map (·.block) = some k → k ≠ g ∧ row ≠ some k) : Kd.C (Kd.int .u8) w1 A xs.length xs := by
  obtain ⟨_, _, _, hf⟩ := h
  exact hf.C hc (fun k hk hS => hS.elim (hg k hk).1 (hg k hk).2)
theorem WPost.ws_other {w w1 : World} {g g' : Nat} {row row' : Option Nat} {xs ys : List Int} (h : WPost w g row ys w1) (hs : WS w g' row' xs) (hne : g' ≠ g) (h1 : row ≠ some g') (h2 : ∀ k, row' = some k → k ≠ g ∧ row ≠ some k) : WS w1 g' row' xs := by
  obtain ⟨_, _, _, hf⟩ := h
  exact hs.fr hf (fun hS => hS.elim hne h1) (fun k hk hS => hS.elim (h2 k hk).1 (h2 k hk).2)

set_option maxRecDepth 100000 in
set_option maxHeartbeats 2000000 in
theorem octetsApart_calls (a b c d : Int) (w : World) (ha0 : 0 ≤ a) (ha1 : a < 18446744073709551616) (hb0 : 0 ≤ b) (hb1 : b < 18446744073709551616)
    (hc0 : -9223372036854775808 ≤ c) (hc1 : c ≤ 9223372036854775807) (hd0 : -9223372036854775808 ≤ d) (hd1 : d ≤ 9223372036854775807) :
    Calls Try.prog 5 #[.int .u64 a, .int .u64 b, .int .i64 c, .int .i64 d] w fun e w' => e = .returned (.bool true) ∧ Below w.heap.size w w' := by
  have HA := Aside0.mk ha1
  have HB := Aside0.mk hb1
  have HC := Aside0.mk (And.intro hc0 hc1)
  have HD := Aside0.mk (And.intro hd0 hd1)
  clear ha1 hb1 hc0 hc1 hd0 hd1
  have HX := Aside0.mk (And.intro ha0 hb0)
  clear ha0 hb0
  have s1 := (((WS.new w).alloc (.cells #[.slice none 0 0] 39)).alloc (.cells #[.slice none 0 0] 39)).alloc (.cells #[.slice none 0 0] 39)
  have s2 := ((WS.new (w.alloc (.cells #[.slice none 0 0] 39))).alloc (.cells #[.slice none 0 0] 39)).alloc (.cells #[.slice none 0 0] 39)
  have s3 := (WS.new ((w.alloc (.cells #[.slice none 0 0] 39)).alloc (.cells #[.slice none 0 0] 39))).alloc (.cells #[.slice none 0 0] 39)
  have s4 := WS.new (((w.alloc (.cells #[.slice none 0 0] 39)).alloc (.cells #[.slice none 0 0] 39)).alloc (.cells #[.slice none 0 0] 39))
  simp only [World.size_alloc] at s2 s3 s4
  have b0 := below_alloc (below_alloc (below_alloc (below_alloc (Below.refl w.heap.size w) (.cells #[.slice none 0 0] 39)) (.cells #[.slice none 0 0] 39)) (.cells #[.slice none 0 0] 39)) (.cells #[.slice none 0 0] 39)
  have S1 := Aside0.mk s1
  have S2 := Aside0.mk s2
  have S3 := Aside0.mk s3
  have S4 := Aside0.mk s4
  have B0 := Aside0.mk b0
  clear s1 s2 s3 s4 b0
  go_enter Try.func5, Try.ntmps5
  go_wp2_with fail
  have hsz : w.heap.size + 4 = ((((w.alloc (.cells #[.slice none 0 0] 39)).alloc (.cells #[.slice none 0 0] 39)).alloc (.cells #[.slice none 0 0] 39)).alloc (.cells #[.slice none 0 0] 39)).heap.size := by simp
  have HZ := Aside0.mk hsz
  clear hsz
  generalize ((((w.alloc (.cells #[.slice none 0 0] 39)).alloc (.cells #[.slice none 0 0] 39)).alloc (.cells #[.slice none 0 0] 39)).alloc (.cells #[.slice none 0 0] 39)) = W0 at *
  -- u
  refine (octets_Writer_Num.calls w.heap.size none [] a W0 HX.out.1 S1.out (by have := numForm_ten a HA.out; simp; omega)).mono ?_
  rintro e W1 ⟨rfl, hp⟩
  obtain ⟨row1, hs1, hb1, hr1⟩ := WPost.below B0.out (Nat.le_refl _) (fun k hk => by cases hk) hp
  have s2 := hp.ws_other S2.out (by omega) (by simp) (by simp)
  have s3 := hp.ws_other S3.out (by omega) (by simp) (by simp)
  have s4 := hp.ws_other S4.out (by omega) (by simp) (by simp)
  have T1 := Aside0.mk hs1
  have T2 := Aside0.mk s2
  have T3 := Aside0.mk s3
  have T4 := Aside0.mk s4
  have B1 := Aside0.mk hb1
  have Z1 := Aside0.mk (Nat.le_trans (Nat.le_of_eq HZ.out) hp.choose_spec.2.2.size)
  clear hp hs1 hb1 hr1 s2 s3 s4 S1 S2 S3 S4 B0 HZ
  go_wp2_with fail
  refine (octets_Writer_Bytes.calls w.heap.size row1 _ W1 T1.out (by have := numForm_ten a HA.out; simp; omega)).mono ?_
  rintro e W2 ⟨v, rfl, hR, hB⟩
  obtain ⟨Ap, cp, rfl, hlp, hCp, hkp⟩ := R_open hR
  have S2 := Aside0.mk (T2.out.below hB)
  have S3 := Aside0.mk (T3.out.below hB)
  have S4 := Aside0.mk (T4.out.below hB)
  have B2 := Aside0.mk (below_then B1.out B1.out.size hB)
  have KP := Aside0.mk (fun k hk => Nat.le_trans Z1.out (hkp k hk).1)
  have CP := Aside0.mk hCp
  have Z2 := Aside0.mk (Nat.le_trans Z1.out hB.size)
  clear hR hB hCp hkp T1 T2 T3 T4 B1 Z1
  rw [List.nil_append] at CP
  -- v
  go_wp2_with fail
  refine (octets_Writer_Num.calls (w.heap.size + 1) none [] b W2 HX.out.2 S2.out (by have := numForm_ten b HB.out; simp; omega)).mono ?_
  rintro e W3 ⟨rfl, hp⟩
  obtain ⟨row2, hs1, hb1, hr1⟩ := WPost.below B2.out (Nat.le_succ _) (fun k hk => by cases hk) hp
  have s3 := hp.ws_other S3.out (by omega) (by simp) (by simp)
  have s4 := hp.ws_other S4.out (by omega) (by simp) (by simp)
  have cp1 := hp.C CP.out (fun k hk => ⟨by have := KP.out k hk; omega, by simp⟩)
  have T1 := Aside0.mk hs1
  have T3 := Aside0.mk s3
  have T4 := Aside0.mk s4
  have B3 := Aside0.mk hb1
  have CP3 := Aside0.mk cp1
  have Z3 := Aside0.mk (Nat.le_trans Z2.out hp.choose_spec.2.2.size)
  clear hp hs1 hb1 hr1 s3 s4 cp1 S2 S3 S4 B2 CP Z2
  go_wp2_with fail
  refine (octets_Writer_Bytes.calls (w.heap.size + 1) row2 _ W3 T1.out (by have := numForm_ten b HB.out; simp; omega)).mono ?_
  rintro e W4 ⟨v, rfl, hR, hB⟩
  obtain ⟨Aq, cq, rfl, hlq, hCq, hkq⟩ := R_open hR
  have S3 := Aside0.mk (T3.out.below hB)
  have S4 := Aside0.mk (T4.out.below hB)
  have B4 := Aside0.mk (below_then B3.out B3.out.size hB)
  have KQ := Aside0.mk (fun k hk => Nat.le_trans Z3.out (hkq k hk).1)
  have CQ := Aside0.mk hCq
  have CP := Aside0.mk (Kd.C_below CP3.out hB)
  have Z4 := Aside0.mk (Nat.le_trans Z3.out hB.size)
  clear hR hB hCq hkq T1 T3 T4 B3 CP3 Z3
  rw [List.nil_append] at CQ
  -- w
  go_wp2_with fail
  refine (octets_Writer_Int.calls (w.heap.size + 1 + 1) none [] c W4 HC.out.1 HC.out.2 S3.out (by simp)).mono ?_
  rintro e W5 ⟨rfl, hp⟩
  obtain ⟨row3, hs1, hb1, hr1⟩ := WPost.below B4.out (by omega) (fun k hk => by cases hk) hp
  have s4 := hp.ws_other S4.out (by omega) (by simp) (by simp)
  have cp1 := hp.C CP.out (fun k hk => ⟨by have := KP.out k hk; omega, by simp⟩)
  have cq1 := hp.C CQ.out (fun k hk => ⟨by have := KQ.out k hk; omega, by simp⟩)
  have T1 := Aside0.mk hs1
  have T4 := Aside0.mk s4
  have B5 := Aside0.mk hb1
  have CP5 := Aside0.mk cp1
  have CQ5 := Aside0.mk cq1
  have Z5 := Aside0.mk (Nat.le_trans Z4.out hp.choose_spec.2.2.size)
  clear hp hs1 hb1 hr1 s4 cp1 cq1 S3 S4 B4 CP CQ Z4
  go_wp2_with fail
  refine (octets_Writer_Bytes.calls (w.heap.size + 1 + 1) row3 _ W5 T1.out (by simp [intForm_length])).mono ?_
  rintro e W6 ⟨v, rfl, hR, hB⟩
  obtain ⟨As, cs, rfl, hls, hCs, hks⟩ := R_open hR
  have S4 := Aside0.mk (T4.out.below hB)
  have B6 := Aside0.mk (below_then B5.out B5.out.size hB)
  have KS := Aside0.mk (fun k hk => Nat.le_trans Z5.out (hks k hk).1)
  have CS := Aside0.mk hCs
  have CP := Aside0.mk (Kd.C_below CP5.out hB)
  have CQ := Aside0.mk (Kd.C_below CQ5.out hB)
  have Z6 := Aside0.mk (Nat.le_trans Z5.out hB.size)
  clear hR hB hCs hks T1 T4 B5 CP5 CQ5 Z5
  rw [List.nil_append] at CS
  -- x
  go_wp2_with fail
  refine (octets_Writer_Int.calls (w.heap.size + 1 + 1 + 1) none [] d W6 HD.out.1 HD.out.2 S4.out (by simp)).mono ?_
  rintro e W7 ⟨rfl, hp⟩
  obtain ⟨row4, hs1, hb1, hr1⟩ := WPost.below B6.out (by omega) (fun k hk => by cases hk) hp
  have cp1 := hp.C CP.out (fun k hk => ⟨by have := KP.out k hk; omega, by simp⟩)
  have cq1 := hp.C CQ.out (fun k hk => ⟨by have := KQ.out k hk; omega, by simp⟩)
  have cs1 := hp.C CS.out (fun k hk => ⟨by have := KS.out k hk; omega, by simp⟩)
  have T1 := Aside0.mk hs1
  have B7 := Aside0.mk hb1
  have CP7 := Aside0.mk cp1
  have CQ7 := Aside0.mk cq1
  have CS7 := Aside0.mk cs1
  clear hp hs1 hb1 hr1 cp1 cq1 cs1 S4 B6 CP CQ CS Z6 KP KQ KS
  go_wp2_with fail
  refine (octets_Writer_Bytes.calls (w.heap.size + 1 + 1 + 1) row4 _ W7 T1.out (by simp [intForm_length])).mono ?_
  rintro e W8 ⟨v, rfl, hR, hB⟩
  obtain ⟨At, ct, rfl, hlt, hCt, hkt⟩ := R_open hR
  have B8 := Aside0.mk (below_then B7.out B7.out.size hB)
  have CT := Aside0.mk hCt
  have CP := Aside0.mk (Kd.C_below CP7.out hB)
  have CQ := Aside0.mk (Kd.C_below CQ7.out hB)
  have CS := Aside0.mk (Kd.C_below CS7.out hB)
  clear hR hB hCt hkt T1 B7 CP7 CQ7 CS7
  rw [List.nil_append] at CT hlp hlq hls hlt
  simp only [List.nil_append]
  -- the tests
  have hbeg := begins_iff a.toNat b.toNat
  have YP := Aside0.mk (numForm_byt a.toNat)
  have YQ := Aside0.mk (numForm_byt b.toNat)
  have YS := Aside0.mk (intForm_byt c)
  have YT := Aside0.mk (intForm_byt d)
  have hab : a.toNat = b.toNat ↔ a = b := by have := HX.out; omega
  have hcd : intForm c = intForm d ↔ c = d := ⟨intForm_inj HC.out.1 HC.out.2 HD.out.1 HD.out.2, fun h => by rw [h]⟩
  have hlc : (intForm c).length = 8 := intForm_length c
  have hld : (intForm d).length = 8 := intForm_length d
  rw [hab] at hbeg
  have LP := Aside0.mk (numForm_ten a HA.out)
  have LQ := Aside0.mk (numForm_ten b HB.out)
  generalize numForm a.toNat = p at *
  generalize numForm b.toNat = q at *
  generalize intForm c = sc at *
  generalize intForm d = td at *
  have HBEG := Aside0.mk hbeg
  have HCD := Aside0.mk hcd
  have HLC := Aside0.mk hlc
  have HLD := Aside0.mk hld
  clear hbeg hcd hlc hld hab HA HB HC HD HX
  by_cases hle : p.length ≤ q.length
  · have lq := LQ.out
    have lp := LP.out
    go_wp2_with fail
    have hlq : (q.take p.length).length = p.length := by rw [List.length_take]; omega
    have hS := same_calls Ap cp p Aq cq (q.take p.length) W8 CP.out (by assumption) (by rw [hlq]; exact C_take CQ.out _ hle) (by rw [hlq]; omega) YP.out (YQ.out.take _)
    rw [hlq] at hS
    refine hS.mono ?_
    rintro e W9 ⟨rfl, hd⟩
    have B9 := Aside0.mk (below_then B8.out B8.out.size hd.below)
    have CS2 := Aside0.mk (Kd.C_below CS.out hd.below)
    have CT2 := Aside0.mk (Kd.C_below CT.out hd.below)
    have HLS := Aside0.mk hls
    have HLT := Aside0.mk hlt
    rw [show decide (p = q.take p.length) = (a == b) from by
      have h := HBEG.out
      rw [Nat.min_eq_left hle] at h
      rw [Bool.eq_iff_iff]
      simp only [decide_eq_true_eq, beq_iff_eq, ← h, hle, true_and]]
    clear hd hlq hS hls hlt
    go_wp2_with fail
    refine (same_calls As cs sc At ct td _ CS2.out HLS.out CT2.out HLT.out YS.out YT.out).mono ?_
    rintro e W10 ⟨rfl, hd⟩
    have B10 := Aside0.mk (below_then B9.out B9.out.size hd.below)
    rw [show decide (sc = td) = (c == d) from by rw [Bool.eq_iff_iff]; simp [HCD.out]]
    clear hd
    go_wp2_with fail
    refine (damperlaw03_alive.calls true W10 rfl).mono ?_
    rintro e W11 ⟨rfl, hd⟩
    have B11 := Aside0.mk (below_then B10.out B10.out.size hd)
    clear hd
    go_wp2
    go_ret
    exact ⟨rfl, B11.out⟩
  · have hnab : (a == b) = false := by
      have h := HBEG.out
      simp only [beq_eq_false_iff_ne]
      exact fun e => hle (h.2 e).1
    have hle' : q.length < p.length := by omega
    have B9 := B8
    have CS2 := CS
    have CT2 := CT
    have HLS := Aside0.mk hls
    have HLT := Aside0.mk hlt
    clear hls hlt
    go_wp2_with fail
    refine (same_calls As cs sc At ct td _ CS2.out HLS.out CT2.out HLT.out YS.out YT.out).mono ?_
    rintro e W10 ⟨rfl, hd⟩
    have B10 := Aside0.mk (below_then B9.out B9.out.size hd.below)
    rw [show decide (sc = td) = (c == d) from by rw [Bool.eq_iff_iff]; simp [HCD.out]]
    clear hd
    go_wp2_with fail
    refine (damperlaw03_alive.calls true W10 rfl).mono ?_
    rintro e W11 ⟨rfl, hd⟩
    have B11 := Aside0.mk (below_then B10.out B10.out.size hd)
    clear hd
    go_wp2
    go_ret
    exact ⟨rfl, B11.out⟩
end Go.Proofs.Ytalpemoodollpaa.P
