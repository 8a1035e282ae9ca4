/- Contracts and plain laws: HOpen, P41, HPut, Hgot, HReadInt, HRead, HApart, P40, HPuts, HReads, HBackPure, HBox, HRK, HrefRd, HTok, HscrStep, HscrRead. -/
import Derived.Deep.Slices
import Derived.Deep.Fields
import Derived.LaidEqlPtr
import Derived.RegionTactic
import Derived.Deep.LoopGhost
import Derived.WalkMore
import Derived.Test.YtalpemoodollpaaX1
/- What an input reads as: from a row's data down to the print's readings. -/
namespace Go.Proofs.Ytalpemoodollpaa.P
open Go.RowKit Go.ChangeShapes Go.WideShapes Go.Deep Go.Proofs.YtalpemoodollpaaW.PrintWords Go.Proofs.YtalpemoodollpaaW.PrintLast Go.Proofs.YtalpemoodollpaaW.PrintMore
set_option linter.unusedVariables false
set_option linter.unusedSimpArgs false

/-- What reads as data of type t reads as the kind K, and has R. -/
def Opens {α : Type} (t : TypeId) (K : Kd α) (R : α → Prop) : Prop :=
  ∀ {H : Type} {enc : TypeId × Value → H} {w : World} {fuel : Nat} {cs : List Value} {x : DataW H × List MemPlace}, DataW.trod enc Try.prog w 0 (fun _ => true) true fuel t cs = some x → ∃ a, K.K w a cs ∧ R a

theorem opens_int {t : TypeId} {k : IntKind} (ht : Try.prog.underlying t = some (.int k)) : Opens t (Kd.int k) (fun n => (Lit.int k n).wf = true) := by
  intro H enc w fuel cs x h
  obtain ⟨n, rfl, _, hw⟩ := DataW.trod_int ht h
  exact ⟨n, rfl, hw⟩

theorem addr_add_add (a : Addr) (i j : Nat) : (a.add i).add j = a.add (i + j) := by
  unfold Addr.add
  by_cases hi : i = 0
  · subst hi; simp
  · by_cases hj : j = 0
    · subst hj; simp [hi]
    · simp [hi, hj, Nat.add_assoc]
theorem opens_slice {α : Type} [Inhabited α] {t e e' : TypeId} {K : Kd α} {R : α → Prop} (ht : Try.prog.underlying t = some (.slice e)) (hc : Try.prog.cellsOf e = K.sz) (he : Opens e K R) :
    Opens t (Kd.slice e' K) (fun xs => ∀ x ∈ xs, R x) := by
  intro H enc w fuel cs x h
  rcases open_slice ht h with ⟨rfl, _⟩ | ⟨a, len, cap, m, n, D, Pl, rfl, hb, hl, hm, hmm, rfl, hx⟩
  · exact ⟨[], ⟨none, 0, rfl, Nat.le_refl _, rfl, by simp, fun h => absurd h (by simp)⟩, by simp⟩
  · have hmm : m = cap := by simpa using hmm
    subst hmm
    have hall : ∀ i, i < len → ∃ v : α, R v ∧ ∃ c : List Value, c.length = K.sz ∧ K.K w v c ∧ ∀ j u, c[j]? = some u → w.cell? (a.add (i * K.sz + j)) = some u := by
      intro i hi
      obtain ⟨cs', h1, h2⟩ := hx i (by omega)
      obtain ⟨v, hv, hr⟩ := he h2
      rw [hc] at h1
      obtain ⟨_, hlen, hcell⟩ := World.cells?_some h1
      refine ⟨v, hr, cs', hlen, hv, fun j u hu => ?_⟩
      have hj : j < K.sz := by
        obtain ⟨hl, _⟩ := List.getElem?_eq_some_iff.1 hu
        omega
      have := hcell j hj
      rw [hu] at this
      rw [← this, addr_add_add]
    have : ∃ f : Nat → α, ∀ i, i < len → R (f i) ∧ ∃ c : List Value, c.length = K.sz ∧ K.K w (f i) c ∧ ∀ j u, c[j]? = some u → w.cell? (a.add (i * K.sz + j)) = some u := by
      exact choose_lt hall
    obtain ⟨f, hf⟩ := this
    refine ⟨(List.range len).map f, ⟨some a, m, by simp, by simpa using hl, rfl, by simp; unfold maxLen at hm; omega, fun _ => ⟨a, rfl, fun j p hj => ?_⟩⟩, ?_⟩
    · obtain ⟨hj1, hj2⟩ := List.getElem?_eq_some_iff.1 hj
      simp at hj1 hj2
      subst hj2
      exact (hf j hj1).2
    · intro y hy
      simp at hy
      obtain ⟨i, hi, rfl⟩ := hy
      exact (hf i hi).1

instance : Inhabited S29 := ⟨z29⟩
instance : Inhabited S49 := ⟨z49⟩
instance : Inhabited S91 := ⟨z91⟩
theorem opens_bytes : Opens 30 (Kd.slice 5 (Kd.int .u8)) (fun xs => ∀ y ∈ xs, (Lit.int .u8 y).wf = true) := opens_slice Try.underlying30 (by kernel_rfl) (opens_int Try.underlying5)
def WF29 (x : S29) : Prop := (Lit.int .i64 x.f0).wf = true ∧ (Lit.int .i64 x.f1).wf = true ∧ (Lit.int .i64 x.f2).wf = true ∧ (Lit.int .i64 x.f3).wf = true ∧ (Lit.int .i64 x.f4).wf = true ∧ (Lit.int .i64 x.f5).wf = true ∧ (Lit.int .i64 x.f6).wf = true ∧ (Lit.int .i64 x.f7).wf = true ∧ (Lit.int .i64 x.f8).wf = true
set_option maxRecDepth 100000 in
theorem opens_29 : Opens 29 k29 WF29 := by
  intro H enc w fuel cs x h
  obtain ⟨xs, n, _, _, hl, hlen, hf⟩ := DataW.trod_struct Try.underlying29 h
  have hc : Try.prog.cellsOf 29 = 9 := by kernel_rfl
  rw [hc] at hl
  have hs : xs.length = 9 := hlen
  clear hlen h
  match cs, hl with
  | [c0, c1, c2, c3, c4, c5, c6, c7, c8], _ =>
    match xs, hs with
    | [x0, x1, x2, x3, x4, x5, x6, x7, x8], _ =>
      have t0 : DataW.trod enc Try.prog w 0 (fun _ => true) true n 3 (([c0, c1, c2, c3, c4, c5, c6, c7, c8].drop 0).take (Try.prog.cellsOf 3)) = [x0, x1, x2, x3, x4, x5, x6, x7, x8][0]? := hf 0 _ rfl
      rw [show Try.prog.cellsOf 3 = 1 by kernel_rfl] at t0
      replace t0 : DataW.trod enc Try.prog w 0 (fun _ => true) true n 3 [c0] = some x0 := t0
      have t1 : DataW.trod enc Try.prog w 0 (fun _ => true) true n 3 (([c0, c1, c2, c3, c4, c5, c6, c7, c8].drop 1).take (Try.prog.cellsOf 3)) = [x0, x1, x2, x3, x4, x5, x6, x7, x8][1]? := hf 1 _ rfl
      rw [show Try.prog.cellsOf 3 = 1 by kernel_rfl] at t1
      replace t1 : DataW.trod enc Try.prog w 0 (fun _ => true) true n 3 [c1] = some x1 := t1
      have t2 : DataW.trod enc Try.prog w 0 (fun _ => true) true n 2 (([c0, c1, c2, c3, c4, c5, c6, c7, c8].drop 2).take (Try.prog.cellsOf 2)) = [x0, x1, x2, x3, x4, x5, x6, x7, x8][2]? := hf 2 _ rfl
      rw [show Try.prog.cellsOf 2 = 1 by kernel_rfl] at t2
      replace t2 : DataW.trod enc Try.prog w 0 (fun _ => true) true n 2 [c2] = some x2 := t2
      have t3 : DataW.trod enc Try.prog w 0 (fun _ => true) true n 2 (([c0, c1, c2, c3, c4, c5, c6, c7, c8].drop 3).take (Try.prog.cellsOf 2)) = [x0, x1, x2, x3, x4, x5, x6, x7, x8][3]? := hf 3 _ rfl
      rw [show Try.prog.cellsOf 2 = 1 by kernel_rfl] at t3
      replace t3 : DataW.trod enc Try.prog w 0 (fun _ => true) true n 2 [c3] = some x3 := t3
      have t4 : DataW.trod enc Try.prog w 0 (fun _ => true) true n 2 (([c0, c1, c2, c3, c4, c5, c6, c7, c8].drop 4).take (Try.prog.cellsOf 2)) = [x0, x1, x2, x3, x4, x5, x6, x7, x8][4]? := hf 4 _ rfl
      rw [show Try.prog.cellsOf 2 = 1 by kernel_rfl] at t4
      replace t4 : DataW.trod enc Try.prog w 0 (fun _ => true) true n 2 [c4] = some x4 := t4
      have t5 : DataW.trod enc Try.prog w 0 (fun _ => true) true n 2 (([c0, c1, c2, c3, c4, c5, c6, c7, c8].drop 5).take (Try.prog.cellsOf 2)) = [x0, x1, x2, x3, x4, x5, x6, x7, x8][5]? := hf 5 _ rfl
      rw [show Try.prog.cellsOf 2 = 1 by kernel_rfl] at t5
      replace t5 : DataW.trod enc Try.prog w 0 (fun _ => true) true n 2 [c5] = some x5 := t5
      have t6 : DataW.trod enc Try.prog w 0 (fun _ => true) true n 2 (([c0, c1, c2, c3, c4, c5, c6, c7, c8].drop 6).take (Try.prog.cellsOf 2)) = [x0, x1, x2, x3, x4, x5, x6, x7, x8][6]? := hf 6 _ rfl
      rw [show Try.prog.cellsOf 2 = 1 by kernel_rfl] at t6
      replace t6 : DataW.trod enc Try.prog w 0 (fun _ => true) true n 2 [c6] = some x6 := t6
      have t7 : DataW.trod enc Try.prog w 0 (fun _ => true) true n 2 (([c0, c1, c2, c3, c4, c5, c6, c7, c8].drop 7).take (Try.prog.cellsOf 2)) = [x0, x1, x2, x3, x4, x5, x6, x7, x8][7]? := hf 7 _ rfl
      rw [show Try.prog.cellsOf 2 = 1 by kernel_rfl] at t7
      replace t7 : DataW.trod enc Try.prog w 0 (fun _ => true) true n 2 [c7] = some x7 := t7
      have t8 : DataW.trod enc Try.prog w 0 (fun _ => true) true n 3 (([c0, c1, c2, c3, c4, c5, c6, c7, c8].drop 8).take (Try.prog.cellsOf 3)) = [x0, x1, x2, x3, x4, x5, x6, x7, x8][8]? := hf 8 _ rfl
      rw [show Try.prog.cellsOf 3 = 1 by kernel_rfl] at t8
      replace t8 : DataW.trod enc Try.prog w 0 (fun _ => true) true n 3 [c8] = some x8 := t8
      clear hf
      obtain ⟨a0, e0, r0⟩ := opens_int (k := .i64) Try.underlying3 t0
      injection e0 with e0 _
      subst e0
      obtain ⟨a1, e1, r1⟩ := opens_int (k := .i64) Try.underlying3 t1
      injection e1 with e1 _
      subst e1
      obtain ⟨a2, e2, r2⟩ := opens_int (k := .i64) Try.underlying2 t2
      injection e2 with e2 _
      subst e2
      obtain ⟨a3, e3, r3⟩ := opens_int (k := .i64) Try.underlying2 t3
      injection e3 with e3 _
      subst e3
      obtain ⟨a4, e4, r4⟩ := opens_int (k := .i64) Try.underlying2 t4
      injection e4 with e4 _
      subst e4
      obtain ⟨a5, e5, r5⟩ := opens_int (k := .i64) Try.underlying2 t5
      injection e5 with e5 _
      subst e5
      obtain ⟨a6, e6, r6⟩ := opens_int (k := .i64) Try.underlying2 t6
      injection e6 with e6 _
      subst e6
      obtain ⟨a7, e7, r7⟩ := opens_int (k := .i64) Try.underlying2 t7
      injection e7 with e7 _
      subst e7
      obtain ⟨a8, e8, r8⟩ := opens_int (k := .i64) Try.underlying3 t8
      injection e8 with e8 _
      subst e8
      exact ⟨⟨a0, a1, a2, a3, a4, a5, a6, a7, a8⟩, k29_mk w _, r0 , r1 , r2 , r3 , r4 , r5 , r6 , r7 , r8⟩
def WF49 (x : S49) : Prop := (Lit.int .i64 x.f0).wf = true ∧ (Lit.int .i64 x.f1).wf = true ∧ (Lit.int .u64 x.f2).wf = true ∧ (Lit.int .i64 x.f3).wf = true ∧ (∀ y ∈ x.f4, (Lit.int .u8 y).wf = true)
set_option maxRecDepth 100000 in
theorem opens_49 : Opens 49 k49 WF49 := by
  intro H enc w fuel cs x h
  obtain ⟨xs, n, _, _, hl, hlen, hf⟩ := DataW.trod_struct Try.underlying49 h
  have hc : Try.prog.cellsOf 49 = 5 := by kernel_rfl
  rw [hc] at hl
  have hs : xs.length = 5 := hlen
  clear hlen h
  match cs, hl with
  | [c0, c1, c2, c3, c4], _ =>
    match xs, hs with
    | [x0, x1, x2, x3, x4], _ =>
      have t0 : DataW.trod enc Try.prog w 0 (fun _ => true) true n 3 (([c0, c1, c2, c3, c4].drop 0).take (Try.prog.cellsOf 3)) = [x0, x1, x2, x3, x4][0]? := hf 0 _ rfl
      rw [show Try.prog.cellsOf 3 = 1 by kernel_rfl] at t0
      replace t0 : DataW.trod enc Try.prog w 0 (fun _ => true) true n 3 [c0] = some x0 := t0
      have t1 : DataW.trod enc Try.prog w 0 (fun _ => true) true n 3 (([c0, c1, c2, c3, c4].drop 1).take (Try.prog.cellsOf 3)) = [x0, x1, x2, x3, x4][1]? := hf 1 _ rfl
      rw [show Try.prog.cellsOf 3 = 1 by kernel_rfl] at t1
      replace t1 : DataW.trod enc Try.prog w 0 (fun _ => true) true n 3 [c1] = some x1 := t1
      have t2 : DataW.trod enc Try.prog w 0 (fun _ => true) true n 37 (([c0, c1, c2, c3, c4].drop 2).take (Try.prog.cellsOf 37)) = [x0, x1, x2, x3, x4][2]? := hf 2 _ rfl
      rw [show Try.prog.cellsOf 37 = 1 by kernel_rfl] at t2
      replace t2 : DataW.trod enc Try.prog w 0 (fun _ => true) true n 37 [c2] = some x2 := t2
      have t3 : DataW.trod enc Try.prog w 0 (fun _ => true) true n 2 (([c0, c1, c2, c3, c4].drop 3).take (Try.prog.cellsOf 2)) = [x0, x1, x2, x3, x4][3]? := hf 3 _ rfl
      rw [show Try.prog.cellsOf 2 = 1 by kernel_rfl] at t3
      replace t3 : DataW.trod enc Try.prog w 0 (fun _ => true) true n 2 [c3] = some x3 := t3
      have t4 : DataW.trod enc Try.prog w 0 (fun _ => true) true n 30 (([c0, c1, c2, c3, c4].drop 4).take (Try.prog.cellsOf 30)) = [x0, x1, x2, x3, x4][4]? := hf 4 _ rfl
      rw [show Try.prog.cellsOf 30 = 1 by kernel_rfl] at t4
      replace t4 : DataW.trod enc Try.prog w 0 (fun _ => true) true n 30 [c4] = some x4 := t4
      clear hf
      obtain ⟨a0, e0, r0⟩ := opens_int (k := .i64) Try.underlying3 t0
      injection e0 with e0 _
      subst e0
      obtain ⟨a1, e1, r1⟩ := opens_int (k := .i64) Try.underlying3 t1
      injection e1 with e1 _
      subst e1
      obtain ⟨a2, e2, r2⟩ := opens_int (k := .u64) Try.underlying37 t2
      injection e2 with e2 _
      subst e2
      obtain ⟨a3, e3, r3⟩ := opens_int (k := .i64) Try.underlying2 t3
      injection e3 with e3 _
      subst e3
      obtain ⟨a4, ⟨A4, cc4, e4, l4, g4⟩, r4⟩ := opens_bytes t4
      injection e4 with e4 _
      subst e4
      exact ⟨⟨a0, a1, a2, a3, a4⟩, k49_mk w _ l4 g4, r0 , r1 , r2 , r3 , r4⟩
def WF91 (x : S91) : Prop := (Lit.int .i64 x.f0).wf = true ∧ (Lit.int .i64 x.f1).wf = true ∧ (Lit.int .i64 x.f2).wf = true ∧ (∀ y ∈ x.f3, (Lit.int .u8 y).wf = true)
set_option maxRecDepth 100000 in
theorem opens_91 : Opens 91 k91 WF91 := by
  intro H enc w fuel cs x h
  obtain ⟨xs, n, _, _, hl, hlen, hf⟩ := DataW.trod_struct Try.underlying91 h
  have hc : Try.prog.cellsOf 91 = 4 := by kernel_rfl
  rw [hc] at hl
  have hs : xs.length = 4 := hlen
  clear hlen h
  match cs, hl with
  | [c0, c1, c2, c3], _ =>
    match xs, hs with
    | [x0, x1, x2, x3], _ =>
      have t0 : DataW.trod enc Try.prog w 0 (fun _ => true) true n 3 (([c0, c1, c2, c3].drop 0).take (Try.prog.cellsOf 3)) = [x0, x1, x2, x3][0]? := hf 0 _ rfl
      rw [show Try.prog.cellsOf 3 = 1 by kernel_rfl] at t0
      replace t0 : DataW.trod enc Try.prog w 0 (fun _ => true) true n 3 [c0] = some x0 := t0
      have t1 : DataW.trod enc Try.prog w 0 (fun _ => true) true n 3 (([c0, c1, c2, c3].drop 1).take (Try.prog.cellsOf 3)) = [x0, x1, x2, x3][1]? := hf 1 _ rfl
      rw [show Try.prog.cellsOf 3 = 1 by kernel_rfl] at t1
      replace t1 : DataW.trod enc Try.prog w 0 (fun _ => true) true n 3 [c1] = some x1 := t1
      have t2 : DataW.trod enc Try.prog w 0 (fun _ => true) true n 2 (([c0, c1, c2, c3].drop 2).take (Try.prog.cellsOf 2)) = [x0, x1, x2, x3][2]? := hf 2 _ rfl
      rw [show Try.prog.cellsOf 2 = 1 by kernel_rfl] at t2
      replace t2 : DataW.trod enc Try.prog w 0 (fun _ => true) true n 2 [c2] = some x2 := t2
      have t3 : DataW.trod enc Try.prog w 0 (fun _ => true) true n 30 (([c0, c1, c2, c3].drop 3).take (Try.prog.cellsOf 30)) = [x0, x1, x2, x3][3]? := hf 3 _ rfl
      rw [show Try.prog.cellsOf 30 = 1 by kernel_rfl] at t3
      replace t3 : DataW.trod enc Try.prog w 0 (fun _ => true) true n 30 [c3] = some x3 := t3
      clear hf
      obtain ⟨a0, e0, r0⟩ := opens_int (k := .i64) Try.underlying3 t0
      injection e0 with e0 _
      subst e0
      obtain ⟨a1, e1, r1⟩ := opens_int (k := .i64) Try.underlying3 t1
      injection e1 with e1 _
      subst e1
      obtain ⟨a2, e2, r2⟩ := opens_int (k := .i64) Try.underlying2 t2
      injection e2 with e2 _
      subst e2
      obtain ⟨a3, ⟨A3, cc3, e3, l3, g3⟩, r3⟩ := opens_bytes t3
      injection e3 with e3 _
      subst e3
      exact ⟨⟨a0, a1, a2, a3⟩, k91_mk w _ l3 g3, r0 , r1 , r2 , r3⟩
set_option maxRecDepth 100000 in
theorem opened_29 {H : Type} {enc : TypeId × Value → H} {w : World} {fuel : Nat} {cs : List Value} {x : DataW H × List MemPlace} (h : DataW.trod enc Try.prog w 0 (fun _ => true) true fuel 29 cs = some x) : ∃ a0 a1 a2 a3 a4 a5 a6 a7 a8 : Int, cs = [.int .i64 a0, .int .i64 a1, .int .i64 a2, .int .i64 a3, .int .i64 a4, .int .i64 a5, .int .i64 a6, .int .i64 a7, .int .i64 a8] ∧ (Lit.int .i64 a0).wf = true ∧ (Lit.int .i64 a1).wf = true ∧ (Lit.int .i64 a2).wf = true ∧ (Lit.int .i64 a3).wf = true ∧ (Lit.int .i64 a4).wf = true ∧ (Lit.int .i64 a5).wf = true ∧ (Lit.int .i64 a6).wf = true ∧ (Lit.int .i64 a7).wf = true ∧ (Lit.int .i64 a8).wf = true := by
  obtain ⟨xs, n, _, _, hl, hlen, hf⟩ := DataW.trod_struct Try.underlying29 h
  have hc : Try.prog.cellsOf 29 = 9 := by kernel_rfl
  rw [hc] at hl
  have hs : xs.length = 9 := hlen
  clear hlen h
  match cs, hl with
  | [c0, c1, c2, c3, c4, c5, c6, c7, c8], _ =>
    match xs, hs with
    | [x0, x1, x2, x3, x4, x5, x6, x7, x8], _ =>
      have t0 : DataW.trod enc Try.prog w 0 (fun _ => true) true n 3 (([c0, c1, c2, c3, c4, c5, c6, c7, c8].drop 0).take (Try.prog.cellsOf 3)) = [x0, x1, x2, x3, x4, x5, x6, x7, x8][0]? := hf 0 _ rfl
      rw [show Try.prog.cellsOf 3 = 1 by kernel_rfl] at t0
      replace t0 : DataW.trod enc Try.prog w 0 (fun _ => true) true n 3 [c0] = some x0 := t0
      have t1 : DataW.trod enc Try.prog w 0 (fun _ => true) true n 3 (([c0, c1, c2, c3, c4, c5, c6, c7, c8].drop 1).take (Try.prog.cellsOf 3)) = [x0, x1, x2, x3, x4, x5, x6, x7, x8][1]? := hf 1 _ rfl
      rw [show Try.prog.cellsOf 3 = 1 by kernel_rfl] at t1
      replace t1 : DataW.trod enc Try.prog w 0 (fun _ => true) true n 3 [c1] = some x1 := t1
      have t2 : DataW.trod enc Try.prog w 0 (fun _ => true) true n 2 (([c0, c1, c2, c3, c4, c5, c6, c7, c8].drop 2).take (Try.prog.cellsOf 2)) = [x0, x1, x2, x3, x4, x5, x6, x7, x8][2]? := hf 2 _ rfl
      rw [show Try.prog.cellsOf 2 = 1 by kernel_rfl] at t2
      replace t2 : DataW.trod enc Try.prog w 0 (fun _ => true) true n 2 [c2] = some x2 := t2
      have t3 : DataW.trod enc Try.prog w 0 (fun _ => true) true n 2 (([c0, c1, c2, c3, c4, c5, c6, c7, c8].drop 3).take (Try.prog.cellsOf 2)) = [x0, x1, x2, x3, x4, x5, x6, x7, x8][3]? := hf 3 _ rfl
      rw [show Try.prog.cellsOf 2 = 1 by kernel_rfl] at t3
      replace t3 : DataW.trod enc Try.prog w 0 (fun _ => true) true n 2 [c3] = some x3 := t3
      have t4 : DataW.trod enc Try.prog w 0 (fun _ => true) true n 2 (([c0, c1, c2, c3, c4, c5, c6, c7, c8].drop 4).take (Try.prog.cellsOf 2)) = [x0, x1, x2, x3, x4, x5, x6, x7, x8][4]? := hf 4 _ rfl
      rw [show Try.prog.cellsOf 2 = 1 by kernel_rfl] at t4
      replace t4 : DataW.trod enc Try.prog w 0 (fun _ => true) true n 2 [c4] = some x4 := t4
      have t5 : DataW.trod enc Try.prog w 0 (fun _ => true) true n 2 (([c0, c1, c2, c3, c4, c5, c6, c7, c8].drop 5).take (Try.prog.cellsOf 2)) = [x0, x1, x2, x3, x4, x5, x6, x7, x8][5]? := hf 5 _ rfl
      rw [show Try.prog.cellsOf 2 = 1 by kernel_rfl] at t5
      replace t5 : DataW.trod enc Try.prog w 0 (fun _ => true) true n 2 [c5] = some x5 := t5
      have t6 : DataW.trod enc Try.prog w 0 (fun _ => true) true n 2 (([c0, c1, c2, c3, c4, c5, c6, c7, c8].drop 6).take (Try.prog.cellsOf 2)) = [x0, x1, x2, x3, x4, x5, x6, x7, x8][6]? := hf 6 _ rfl
      rw [show Try.prog.cellsOf 2 = 1 by kernel_rfl] at t6
      replace t6 : DataW.trod enc Try.prog w 0 (fun _ => true) true n 2 [c6] = some x6 := t6
      have t7 : DataW.trod enc Try.prog w 0 (fun _ => true) true n 2 (([c0, c1, c2, c3, c4, c5, c6, c7, c8].drop 7).take (Try.prog.cellsOf 2)) = [x0, x1, x2, x3, x4, x5, x6, x7, x8][7]? := hf 7 _ rfl
      rw [show Try.prog.cellsOf 2 = 1 by kernel_rfl] at t7
      replace t7 : DataW.trod enc Try.prog w 0 (fun _ => true) true n 2 [c7] = some x7 := t7
      have t8 : DataW.trod enc Try.prog w 0 (fun _ => true) true n 3 (([c0, c1, c2, c3, c4, c5, c6, c7, c8].drop 8).take (Try.prog.cellsOf 3)) = [x0, x1, x2, x3, x4, x5, x6, x7, x8][8]? := hf 8 _ rfl
      rw [show Try.prog.cellsOf 3 = 1 by kernel_rfl] at t8
      replace t8 : DataW.trod enc Try.prog w 0 (fun _ => true) true n 3 [c8] = some x8 := t8
      clear hf
      obtain ⟨a0, e0, r0⟩ := opens_int (k := .i64) Try.underlying3 t0
      injection e0 with e0 _
      subst e0
      obtain ⟨a1, e1, r1⟩ := opens_int (k := .i64) Try.underlying3 t1
      injection e1 with e1 _
      subst e1
      obtain ⟨a2, e2, r2⟩ := opens_int (k := .i64) Try.underlying2 t2
      injection e2 with e2 _
      subst e2
      obtain ⟨a3, e3, r3⟩ := opens_int (k := .i64) Try.underlying2 t3
      injection e3 with e3 _
      subst e3
      obtain ⟨a4, e4, r4⟩ := opens_int (k := .i64) Try.underlying2 t4
      injection e4 with e4 _
      subst e4
      obtain ⟨a5, e5, r5⟩ := opens_int (k := .i64) Try.underlying2 t5
      injection e5 with e5 _
      subst e5
      obtain ⟨a6, e6, r6⟩ := opens_int (k := .i64) Try.underlying2 t6
      injection e6 with e6 _
      subst e6
      obtain ⟨a7, e7, r7⟩ := opens_int (k := .i64) Try.underlying2 t7
      injection e7 with e7 _
      subst e7
      obtain ⟨a8, e8, r8⟩ := opens_int (k := .i64) Try.underlying3 t8
      injection e8 with e8 _
      subst e8
      exact ⟨a0, a1, a2, a3, a4, a5, a6, a7, a8, rfl, r0, r1, r2, r3, r4, r5, r6, r7, r8⟩
set_option maxRecDepth 100000 in
theorem opened_95 {H : Type} {enc : TypeId × Value → H} {w : World} {fuel : Nat} {cs : List Value} {x : DataW H × List MemPlace} (h : DataW.trod enc Try.prog w 0 (fun _ => true) true fuel 95 cs = some x) : ∃ a0 a1 a2 a3 a4 a5 a6 a7 a8 : Int, cs = [.int .i64 a0, .int .i64 a1, .int .i64 a2, .int .i64 a3, .int .i64 a4, .int .i64 a5, .int .i64 a6, .int .i64 a7, .int .i64 a8] ∧ (Lit.int .i64 a0).wf = true ∧ (Lit.int .i64 a1).wf = true ∧ (Lit.int .i64 a2).wf = true ∧ (Lit.int .i64 a3).wf = true ∧ (Lit.int .i64 a4).wf = true ∧ (Lit.int .i64 a5).wf = true ∧ (Lit.int .i64 a6).wf = true ∧ (Lit.int .i64 a7).wf = true ∧ (Lit.int .i64 a8).wf = true := by
  obtain ⟨xs, n, _, _, hl, hlen, hf⟩ := DataW.trod_struct Try.underlying95 h
  have hc : Try.prog.cellsOf 95 = 9 := by kernel_rfl
  rw [hc] at hl
  have hs : xs.length = 9 := hlen
  clear hlen h
  match cs, hl with
  | [c0, c1, c2, c3, c4, c5, c6, c7, c8], _ =>
    match xs, hs with
    | [x0, x1, x2, x3, x4, x5, x6, x7, x8], _ =>
      have t0 : DataW.trod enc Try.prog w 0 (fun _ => true) true n 3 (([c0, c1, c2, c3, c4, c5, c6, c7, c8].drop 0).take (Try.prog.cellsOf 3)) = [x0, x1, x2, x3, x4, x5, x6, x7, x8][0]? := hf 0 _ rfl
      rw [show Try.prog.cellsOf 3 = 1 by kernel_rfl] at t0
      replace t0 : DataW.trod enc Try.prog w 0 (fun _ => true) true n 3 [c0] = some x0 := t0
      have t1 : DataW.trod enc Try.prog w 0 (fun _ => true) true n 3 (([c0, c1, c2, c3, c4, c5, c6, c7, c8].drop 1).take (Try.prog.cellsOf 3)) = [x0, x1, x2, x3, x4, x5, x6, x7, x8][1]? := hf 1 _ rfl
      rw [show Try.prog.cellsOf 3 = 1 by kernel_rfl] at t1
      replace t1 : DataW.trod enc Try.prog w 0 (fun _ => true) true n 3 [c1] = some x1 := t1
      have t2 : DataW.trod enc Try.prog w 0 (fun _ => true) true n 2 (([c0, c1, c2, c3, c4, c5, c6, c7, c8].drop 2).take (Try.prog.cellsOf 2)) = [x0, x1, x2, x3, x4, x5, x6, x7, x8][2]? := hf 2 _ rfl
      rw [show Try.prog.cellsOf 2 = 1 by kernel_rfl] at t2
      replace t2 : DataW.trod enc Try.prog w 0 (fun _ => true) true n 2 [c2] = some x2 := t2
      have t3 : DataW.trod enc Try.prog w 0 (fun _ => true) true n 3 (([c0, c1, c2, c3, c4, c5, c6, c7, c8].drop 3).take (Try.prog.cellsOf 3)) = [x0, x1, x2, x3, x4, x5, x6, x7, x8][3]? := hf 3 _ rfl
      rw [show Try.prog.cellsOf 3 = 1 by kernel_rfl] at t3
      replace t3 : DataW.trod enc Try.prog w 0 (fun _ => true) true n 3 [c3] = some x3 := t3
      have t4 : DataW.trod enc Try.prog w 0 (fun _ => true) true n 3 (([c0, c1, c2, c3, c4, c5, c6, c7, c8].drop 4).take (Try.prog.cellsOf 3)) = [x0, x1, x2, x3, x4, x5, x6, x7, x8][4]? := hf 4 _ rfl
      rw [show Try.prog.cellsOf 3 = 1 by kernel_rfl] at t4
      replace t4 : DataW.trod enc Try.prog w 0 (fun _ => true) true n 3 [c4] = some x4 := t4
      have t5 : DataW.trod enc Try.prog w 0 (fun _ => true) true n 3 (([c0, c1, c2, c3, c4, c5, c6, c7, c8].drop 5).take (Try.prog.cellsOf 3)) = [x0, x1, x2, x3, x4, x5, x6, x7, x8][5]? := hf 5 _ rfl
      rw [show Try.prog.cellsOf 3 = 1 by kernel_rfl] at t5
      replace t5 : DataW.trod enc Try.prog w 0 (fun _ => true) true n 3 [c5] = some x5 := t5
      have t6 : DataW.trod enc Try.prog w 0 (fun _ => true) true n 2 (([c0, c1, c2, c3, c4, c5, c6, c7, c8].drop 6).take (Try.prog.cellsOf 2)) = [x0, x1, x2, x3, x4, x5, x6, x7, x8][6]? := hf 6 _ rfl
      rw [show Try.prog.cellsOf 2 = 1 by kernel_rfl] at t6
      replace t6 : DataW.trod enc Try.prog w 0 (fun _ => true) true n 2 [c6] = some x6 := t6
      have t7 : DataW.trod enc Try.prog w 0 (fun _ => true) true n 2 (([c0, c1, c2, c3, c4, c5, c6, c7, c8].drop 7).take (Try.prog.cellsOf 2)) = [x0, x1, x2, x3, x4, x5, x6, x7, x8][7]? := hf 7 _ rfl
      rw [show Try.prog.cellsOf 2 = 1 by kernel_rfl] at t7
      replace t7 : DataW.trod enc Try.prog w 0 (fun _ => true) true n 2 [c7] = some x7 := t7
      have t8 : DataW.trod enc Try.prog w 0 (fun _ => true) true n 3 (([c0, c1, c2, c3, c4, c5, c6, c7, c8].drop 8).take (Try.prog.cellsOf 3)) = [x0, x1, x2, x3, x4, x5, x6, x7, x8][8]? := hf 8 _ rfl
      rw [show Try.prog.cellsOf 3 = 1 by kernel_rfl] at t8
      replace t8 : DataW.trod enc Try.prog w 0 (fun _ => true) true n 3 [c8] = some x8 := t8
      clear hf
      obtain ⟨a0, e0, r0⟩ := opens_int (k := .i64) Try.underlying3 t0
      injection e0 with e0 _
      subst e0
      obtain ⟨a1, e1, r1⟩ := opens_int (k := .i64) Try.underlying3 t1
      injection e1 with e1 _
      subst e1
      obtain ⟨a2, e2, r2⟩ := opens_int (k := .i64) Try.underlying2 t2
      injection e2 with e2 _
      subst e2
      obtain ⟨a3, e3, r3⟩ := opens_int (k := .i64) Try.underlying3 t3
      injection e3 with e3 _
      subst e3
      obtain ⟨a4, e4, r4⟩ := opens_int (k := .i64) Try.underlying3 t4
      injection e4 with e4 _
      subst e4
      obtain ⟨a5, e5, r5⟩ := opens_int (k := .i64) Try.underlying3 t5
      injection e5 with e5 _
      subst e5
      obtain ⟨a6, e6, r6⟩ := opens_int (k := .i64) Try.underlying2 t6
      injection e6 with e6 _
      subst e6
      obtain ⟨a7, e7, r7⟩ := opens_int (k := .i64) Try.underlying2 t7
      injection e7 with e7 _
      subst e7
      obtain ⟨a8, e8, r8⟩ := opens_int (k := .i64) Try.underlying3 t8
      injection e8 with e8 _
      subst e8
      exact ⟨a0, a1, a2, a3, a4, a5, a6, a7, a8, rfl, r0, r1, r2, r3, r4, r5, r6, r7, r8⟩
set_option maxRecDepth 100000 in
theorem open_arg29 {H : Type} {enc : TypeId × Value → H} {w : World} {r : Reach} {b0 : Nat} {v : Value} {d : DataW H} {ps : List MemPlace} (hval : Value.okWide Try.prog w r b0 29 v) (hd : DataW.Trod enc Try.prog w 0 (fun _ => true) true 29 v d ps) :
    ∃ a0 a1 a2 a3 a4 a5 a6 a7 a8 : Int, v = .agg #[.int .i64 a0, .int .i64 a1, .int .i64 a2, .int .i64 a3, .int .i64 a4, .int .i64 a5, .int .i64 a6, .int .i64 a7, .int .i64 a8] ∧ (Lit.int .i64 a0).wf = true ∧ (Lit.int .i64 a1).wf = true ∧ (Lit.int .i64 a2).wf = true ∧ (Lit.int .i64 a3).wf = true ∧ (Lit.int .i64 a4).wf = true ∧ (Lit.int .i64 a5).wf = true ∧ (Lit.int .i64 a6).wf = true ∧ (Lit.int .i64 a7).wf = true ∧ (Lit.int .i64 a8).wf = true := by
  have hv := hval
  unfold Value.okWide at hv
  rw [Try.underlying29] at hv
  obtain ⟨cs, rfl, _, _⟩ := hv
  obtain ⟨fuel, hf⟩ := hd
  obtain ⟨a0, a1, a2, a3, a4, a5, a6, a7, a8, hc, hw⟩ := opened_29 hf
  refine ⟨a0, a1, a2, a3, a4, a5, a6, a7, a8, ?_, hw⟩
  have : cs = #[.int .i64 a0, .int .i64 a1, .int .i64 a2, .int .i64 a3, .int .i64 a4, .int .i64 a5, .int .i64 a6, .int .i64 a7, .int .i64 a8] := by
    apply Array.toList_inj.1
    exact hc
  rw [this]
set_option maxRecDepth 100000 in
theorem open_arg95 {H : Type} {enc : TypeId × Value → H} {w : World} {r : Reach} {b0 : Nat} {v : Value} {d : DataW H} {ps : List MemPlace} (hval : Value.okWide Try.prog w r b0 95 v) (hd : DataW.Trod enc Try.prog w 0 (fun _ => true) true 95 v d ps) :
    ∃ a0 a1 a2 a3 a4 a5 a6 a7 a8 : Int, v = .agg #[.int .i64 a0, .int .i64 a1, .int .i64 a2, .int .i64 a3, .int .i64 a4, .int .i64 a5, .int .i64 a6, .int .i64 a7, .int .i64 a8] ∧ (Lit.int .i64 a0).wf = true ∧ (Lit.int .i64 a1).wf = true ∧ (Lit.int .i64 a2).wf = true ∧ (Lit.int .i64 a3).wf = true ∧ (Lit.int .i64 a4).wf = true ∧ (Lit.int .i64 a5).wf = true ∧ (Lit.int .i64 a6).wf = true ∧ (Lit.int .i64 a7).wf = true ∧ (Lit.int .i64 a8).wf = true := by
  have hv := hval
  unfold Value.okWide at hv
  rw [Try.underlying95] at hv
  obtain ⟨cs, rfl, _, _⟩ := hv
  obtain ⟨fuel, hf⟩ := hd
  obtain ⟨a0, a1, a2, a3, a4, a5, a6, a7, a8, hc, hw⟩ := opened_95 hf
  refine ⟨a0, a1, a2, a3, a4, a5, a6, a7, a8, ?_, hw⟩
  have : cs = #[.int .i64 a0, .int .i64 a1, .int .i64 a2, .int .i64 a3, .int .i64 a4, .int .i64 a5, .int .i64 a6, .int .i64 a7, .int .i64 a8] := by
    apply Array.toList_inj.1
    exact hc
  rw [this]
theorem opens_msgs : Opens 22 (Kd.slice 29 k29) (fun xs => ∀ x ∈ xs, WF29 x) := opens_slice Try.underlying22 (by kernel_rfl) opens_29
theorem opens_parts : Opens 45 (Kd.slice 49 k49) (fun xs => ∀ x ∈ xs, WF49 x) := opens_slice Try.underlying45 (by kernel_rfl) opens_49
theorem opens_steps : Opens 54 (Kd.slice 91 k91) (fun xs => ∀ x ∈ xs, WF91 x) := opens_slice Try.underlying54 (by kernel_rfl) opens_91
theorem opens_rows : Opens 62 (Kd.slice 30 (Kd.slice 5 (Kd.int .u8))) (fun xs => ∀ x ∈ xs, ∀ y ∈ x, (Lit.int .u8 y).wf = true) := opens_slice Try.underlying62 (by kernel_rfl) opens_bytes
theorem opens_ints : Opens 61 (Kd.slice 3 (Kd.int .i64)) (fun xs => ∀ x ∈ xs, (Lit.int .i64 x).wf = true) := opens_slice Try.underlying61 (by kernel_rfl) (opens_int Try.underlying3)
-- A slice that is handed in.
set_option maxRecDepth 100000 in
theorem open_arg_slice {α : Type} {t e e' : TypeId} {K : Kd α} {R : α → Prop} (ht : Try.prog.underlying t = some (.slice e)) (ho : Opens t (Kd.slice e' K) (fun xs => ∀ x ∈ xs, R x))
    {H : Type} {enc : TypeId × Value → H} {w : World} {r : Reach} {b0 : Nat} {v : Value} {d : DataW H} {ps : List MemPlace} (hval : Value.okWide Try.prog w r b0 t v) (hd : DataW.Trod enc Try.prog w 0 (fun _ => true) true t v d ps) :
    ∃ (A : Option Addr) (c : Nat) (xs : List α), v = .slice A xs.length c ∧ xs.length ≤ c ∧ K.C w A xs.length xs ∧ (∀ x ∈ xs, R x) ∧ ∀ y ∈ ps, y.block < w.heap.size := by
  obtain ⟨A, l, c, rfl⟩ := okWide_slice ht hval
  have hlt : ∀ y ∈ ps, y.block < w.heap.size := by obtain ⟨m, hm⟩ := hd; exact DataW.trod_lt m _ _ _ hm
  obtain ⟨fuel, hf⟩ := hd
  obtain ⟨xs, ⟨A', c', hc, hl, hC⟩, hr⟩ := ho hf
  simp [Value.cells] at hc
  obtain ⟨rfl, rfl, rfl⟩ := hc
  exact ⟨_, _, xs, rfl, hl, hC, hr, hlt⟩
end Go.Proofs.Ytalpemoodollpaa.P
-- Printed by hookprint.py (the session's own program, over the kit's print.py): checked by Lean like any text.
namespace Go.Proofs.Ytalpemoodollpaa.P
open Go.RowKit Go.Proofs.YtalpemoodollpaaW.PrintWords Go.Proofs.YtalpemoodollpaaW.PrintLast Go.Proofs.YtalpemoodollpaaW.PrintMore
attribute [local go_sem] max2_int min2_int max_two min_two max_three min_three max_four min_four   -- for this text's walks alone
set_option linter.unusedVariables false
set_option linter.unusedSimpArgs false

/-! ### damperlaw03_form: function 41 -/
def damperlaw03_form.f (k : Nat) (a0_0 : Int) (a0_1 : Int) (a0_2 : Int) (a0_3 : Int) (l0_4 : List Int) : Option (List Int) := if a0_0 = 1 then ((damperref03_Uint.f k a0_2 a0_1).bind fun t237 => (some t237)) else (if a0_0 = 2 then ((damperref03_Int.f k a0_3).bind fun t240 => (some t240)) else (if a0_0 = 3 then ((damperref03_Num.f k a0_2).bind fun t243 => (some t243)) else (if a0_0 = 4 then (some l0_4) else (some ([] : List Int)))))
theorem damperlaw03_form.mono : ∀ a0 a1 a2 a3 a4 k, LeO (damperlaw03_form.f k a0 a1 a2 a3 a4) (damperlaw03_form.f (k + 1) a0 a1 a2 a3 a4) := by
  intro a0 a1 a2 a3 a4 k
  unfold damperlaw03_form.f
  repeat' first
      | (with_reducible exact damperref03_Int.mono _ _)
      | (with_reducible exact damperref03_Num.mono _ _)
      | (with_reducible exact damperref03_Uint.mono _ _ _)
      | (with_reducible exact LeO.refl _)
      | (with_reducible exact LeO.none _)
      | (with_reducible refine LeO.ite ?_ ?_)
      | (with_reducible refine LeO.bind ?_ (fun _ => ?_))
      | exact damperref03_Int.mono _ _
      | exact damperref03_Num.mono _ _
      | exact damperref03_Uint.mono _ _ _
      | exact LeO.none _
      | refine LeO.ite ?_ ?_
      | refine LeO.bind ?_ (fun _ => ?_)
set_option maxHeartbeats 8000000 in
set_option maxRecDepth 100000 in
theorem damperlaw03_form.calls (k : Nat) (a0_0 : Int) (a0_1 : Int) (a0_2 : Int) (a0_3 : Int) (P0_4_ : Nat → Prop) (u9000_ : Value) (l0_4 : List Int) (r : List Int) (w0 w : World) (hB : Below w0.heap.size w0 w) (ho0_4 : Kd.R (Kd.int .u8) 5 w w0.heap.size P0_4_ u9000_ l0_4) (h : damperlaw03_form.f k a0_0 a0_1 a0_2 a0_3 l0_4 = some r) :
    Calls Try.prog 41 #[.agg #[.int .i64 a0_0, .int .i64 a0_1, .int .u64 a0_2, .int .i64 a0_3, u9000_]] w fun e w' => ∃ v0_ : Value, e = .returned (v0_) ∧ Kd.R (Kd.int .u8) 5 w' w0.heap.size (fun k_ => (P0_4_ k_ ∨ w.heap.size ≤ k_)) v0_ r ∧ Below w0.heap.size w0 w' ∧ Kept w w' (fun k_ => P0_4_ k_) := by
  have hu49 := Try.underlying49
  have HO0_4 := Aside0.mk (show Kd.R (Kd.int .u8) 5 w w0.heap.size (fun k_ => (P0_4_ k_ ∨ w.heap.size ≤ k_)) u9000_ l0_4 from Kd.R_mono ho0_4 (fun k_ hk => (.inl hk)))
  have HK := Aside0.mk (Kept.refl w (fun k_ => P0_4_ k_))
  have HW0 := Aside0.mk hB.size
  have HB := Aside0.mk hB
  clear hB
  have H : (if a0_0 = 1 then ((damperref03_Uint.f k a0_2 a0_1).bind fun t237 => (some t237)) else (if a0_0 = 2 then ((damperref03_Int.f k a0_3).bind fun t240 => (some t240)) else (if a0_0 = 3 then ((damperref03_Num.f k a0_2).bind fun t243 => (some t243)) else (if a0_0 = 4 then (some l0_4) else (some ([] : List Int)))))) = some r := h
  clear h
  by_cases c2 : a0_0 = 1
  · rw [if_pos c2] at H
    have c2b0 : (a0_0 == 1) = true := beq_iff_eq.mpr c2
    have c2b1 : (a0_0 != 1) = false := bne_eq_false_iff_eq.mpr c2
    clear c2
    replace H := Option.bind_eq_some_iff.mp H
    obtain ⟨t237, A30, H⟩ := H
    replace H : (some t237) = some r := H
    have A3 := Aside0.mk A30
    clear A30
    obtain rfl := Option.some.inj H
    obtain ⟨Ao4, co4, eo4⟩ := Kd.R_slice HO0_4.out
    subst eo4
    go_enter Try.func41, Try.ntmps41
    go_wp2_with (first | ((with_reducible refine gate_dst (N := 1) rfl ?_); refine box_event ?hg (N := 1) ?hd (cs := #[.int .i64 a0_0, .int .i64 a0_1, .int .u64 a0_2, .int .i64 a0_3, .slice Ao4 l0_4.length co4]) (t := 49) ?hr ?_; (case hd => rfl); (case hg => rfl); (case hr => first | (go_simp; done) | (go_simp; rfl)); intro gb236 hg w5 hbox hb; have n0_ := Aside0.mk (Kd.R_below (by (with_reducible repeat (first | apply Kd.R_alloc | apply Kd.R_drewN | apply Kd.R_drew)); exact HO0_4.out) hb); have n1_ := Aside0.mk (Kept.below (S := (fun k_ => P0_4_ k_)) (by repeat (first | (with_reducible first | exact HK.out | apply Kept.alloc | apply Kept.drewN | apply Kept.drew) | exact HK.out)) hb); have n2_ := Aside0.mk (below_step (by repeat (first | (with_reducible first | exact HB.out | apply below_alloc | apply pw_below_drewN | apply below_drew1) | exact HB.out)) hb); have n3_ := Aside0.mk (hbox); have n4_ := Aside0.mk ((by rw [hg]; exact (by first | exact HK.out.1 | exact (show Kept w _ (fun k_ => P0_4_ k_) from by repeat (first | (with_reducible first | exact HK.out | apply Kept.alloc | apply Kept.drewN | apply Kept.drew) | exact HK.out)).1) : w.heap.size ≤ gb236)); have n5_ := Aside0.mk ((by rw [hg]; exact (below_size (by repeat (first | (with_reducible first | exact HB.out | apply below_alloc | apply pw_below_drewN | apply below_drew1) | exact HB.out))) : w0.heap.size ≤ gb236)); clear HO0_4; clear HK; clear HB; have HO0_4 := n0_; have HK := n1_; have HB := n2_; have BK236 := n3_; have GW236 := n4_; have GE236 := n5_; clear n0_ n1_ n2_ n3_ n4_ n5_; clear hb hbox hg; have hcz6_0 : w5.cell? ⟨gb236, 0, none⟩ = some (.int .i64 a0_0) := (blk_cell BK236.out 0).trans rfl; have hcz6_1 : w5.cell? ⟨gb236, 1, none⟩ = some (.int .i64 a0_1) := (blk_cell BK236.out 1).trans rfl; have hcz6_2 : w5.cell? ⟨gb236, 2, none⟩ = some (.int .u64 a0_2) := (blk_cell BK236.out 2).trans rfl; have hcz6_3 : w5.cell? ⟨gb236, 3, none⟩ = some (.int .i64 a0_3) := (blk_cell BK236.out 3).trans rfl; have hcz6_4 : w5.cell? ⟨gb236, 4, none⟩ = some (.slice Ao4 l0_4.length co4) := (blk_cell BK236.out 4).trans rfl; have hfz6_0 := blk_frozen BK236.out 0; have hfz6_1 := blk_frozen BK236.out 1; have hfz6_2 := blk_frozen BK236.out 2; have hfz6_3 := blk_frozen BK236.out 3; have hfz6_4 := blk_frozen BK236.out 4) | ((with_reducible refine gate_callee (f := 101) rfl ?_); refine goesL_ (some 11) rfl rfl Try.func101 (by kernel_rfl) rfl #[.int .u64 a0_2, .int .i64 a0_1] rfl (by (try simp only [List.map_toArray, List.map_cons, List.map_nil]); first | done | rfl | (simp only [List.length_drop, List.length_take]; rfl)) ?_; (with_reducible refine (damperref03_Uint.calls k a0_2 a0_1 t237 _ A3.out).mono ?_); rintro e w7 ⟨v238, rfl, ho0, hb⟩; refine ⟨_, rfl, ?_⟩; have n0_ := Aside0.mk (Kd.R_elder' (by (with_reducible repeat (first | apply Kd.R_alloc | apply Kd.R_drewN | apply Kd.R_drew)); exact HO0_4.out) (Kd.R_base ho0) hb); have n1_ := Aside0.mk (Kd.R_lower (Kd.R_new' (Kd.R_newM (M := fun k_ => (P0_4_ k_ ∨ w.heap.size ≤ k_)) ho0 (by first | exact HK.out.1 | exact (show Kept w _ (fun k_ => P0_4_ k_) from by repeat (first | (with_reducible first | exact HK.out | apply Kept.alloc | apply Kept.drewN | apply Kept.drew | refine Kept.setCell ?_ (.inr GW236.out) _) | exact HK.out)).1) (fun k_ h_ => .inr h_)) (Kd.R_lt (by (with_reducible repeat (first | apply Kd.R_alloc | apply Kd.R_drewN | apply Kd.R_drew)); exact HO0_4.out))) (below_size (by repeat (first | (with_reducible first | exact HB.out | apply below_alloc | apply pw_below_drewN | apply below_drew1 | refine below_set ?_ GE236.out) | exact HB.out)))); have n2_ := Aside0.mk (blk_below (g := gb236) (o := .cells #[.int .i64 a0_0, .int .i64 a0_1, .int .u64 a0_2, .int .i64 a0_3, .slice Ao4 l0_4.length co4] 49 (0, 0)) (by (with_reducible repeat (first | refine blk_drewN ?_ _ | refine blk_drew ?_ | refine blk_alloc ?_ _)); exact BK236.out) hb); have n3_ := Aside0.mk (Kept.below (S := (fun k_ => P0_4_ k_)) (by repeat (first | (with_reducible first | exact HK.out | apply Kept.alloc | apply Kept.drewN | apply Kept.drew | refine Kept.setCell ?_ (.inr GW236.out) _) | exact HK.out)) hb); have n4_ := Aside0.mk (below_step (by repeat (first | (with_reducible first | exact HB.out | apply below_alloc | apply pw_below_drewN | apply below_drew1 | refine below_set ?_ GE236.out) | exact HB.out)) hb); clear HO0_4; clear BK236; clear HK; clear HB; have HO0_4 := n0_; have HO239 := n1_; have BK236 := n2_; have HK := n3_; have HB := n4_; clear n0_ n1_ n2_ n3_ n4_; (try clear hb); (try clear hb2); (try clear hk); (try clear hi); (try clear ho0)))
    go_ret
    exact ⟨_, by first | rfl | (simp [errW_none, errW_some] <;> rfl) | (simp [*, errW_none, errW_some] <;> rfl), by (with_reducible repeat (first | apply Kd.R_alloc | apply Kd.R_drewN | apply Kd.R_drew)); exact Kd.R_mono HO239.out (fun _ hk => hk.1.1), by repeat (first | (with_reducible first | exact HB.out | apply below_alloc | apply pw_below_drewN | apply below_drew1 | refine below_set ?_ GE236.out) | exact HB.out), by repeat (first | (with_reducible first | exact HK.out | apply Kept.alloc | apply Kept.drewN | apply Kept.drew | refine Kept.setCell ?_ (.inr GW236.out) _) | exact HK.out)⟩
  · rw [if_neg c2] at H
    have c2b0 : (a0_0 == 1) = false := beq_eq_false_iff_ne.mpr c2
    have c2b1 : (a0_0 != 1) = true := bne_iff_ne.mpr c2
    by_cases c8 : a0_0 = 2
    · rw [if_pos c8] at H
      have c8b0 : (a0_0 == 2) = true := beq_iff_eq.mpr c8
      have c8b1 : (a0_0 != 2) = false := bne_eq_false_iff_eq.mpr c8
      clear c8
      replace H := Option.bind_eq_some_iff.mp H
      obtain ⟨t240, A90, H⟩ := H
      replace H : (some t240) = some r := H
      have A9 := Aside0.mk A90
      clear A90
      obtain rfl := Option.some.inj H
      obtain ⟨Ao10, co10, eo10⟩ := Kd.R_slice HO0_4.out
      subst eo10
      go_enter Try.func41, Try.ntmps41
      go_wp2_with (first | ((with_reducible refine gate_dst (N := 1) rfl ?_); refine box_event ?hg (N := 1) ?hd (cs := #[.int .i64 a0_0, .int .i64 a0_1, .int .u64 a0_2, .int .i64 a0_3, .slice Ao10 l0_4.length co10]) (t := 49) ?hr ?_; (case hd => rfl); (case hg => rfl); (case hr => first | (go_simp; done) | (go_simp; rfl)); intro gb236 hg w11 hbox hb; have n0_ := Aside0.mk (Kd.R_below (by (with_reducible repeat (first | apply Kd.R_alloc | apply Kd.R_drewN | apply Kd.R_drew)); exact HO0_4.out) hb); have n1_ := Aside0.mk (Kept.below (S := (fun k_ => P0_4_ k_)) (by repeat (first | (with_reducible first | exact HK.out | apply Kept.alloc | apply Kept.drewN | apply Kept.drew) | exact HK.out)) hb); have n2_ := Aside0.mk (below_step (by repeat (first | (with_reducible first | exact HB.out | apply below_alloc | apply pw_below_drewN | apply below_drew1) | exact HB.out)) hb); have n3_ := Aside0.mk (hbox); have n4_ := Aside0.mk ((by rw [hg]; exact (by first | exact HK.out.1 | exact (show Kept w _ (fun k_ => P0_4_ k_) from by repeat (first | (with_reducible first | exact HK.out | apply Kept.alloc | apply Kept.drewN | apply Kept.drew) | exact HK.out)).1) : w.heap.size ≤ gb236)); have n5_ := Aside0.mk ((by rw [hg]; exact (below_size (by repeat (first | (with_reducible first | exact HB.out | apply below_alloc | apply pw_below_drewN | apply below_drew1) | exact HB.out))) : w0.heap.size ≤ gb236)); clear HO0_4; clear HK; clear HB; have HO0_4 := n0_; have HK := n1_; have HB := n2_; have BK236 := n3_; have GW236 := n4_; have GE236 := n5_; clear n0_ n1_ n2_ n3_ n4_ n5_; clear hb hbox hg; have hcz12_0 : w11.cell? ⟨gb236, 0, none⟩ = some (.int .i64 a0_0) := (blk_cell BK236.out 0).trans rfl; have hcz12_1 : w11.cell? ⟨gb236, 1, none⟩ = some (.int .i64 a0_1) := (blk_cell BK236.out 1).trans rfl; have hcz12_2 : w11.cell? ⟨gb236, 2, none⟩ = some (.int .u64 a0_2) := (blk_cell BK236.out 2).trans rfl; have hcz12_3 : w11.cell? ⟨gb236, 3, none⟩ = some (.int .i64 a0_3) := (blk_cell BK236.out 3).trans rfl; have hcz12_4 : w11.cell? ⟨gb236, 4, none⟩ = some (.slice Ao10 l0_4.length co10) := (blk_cell BK236.out 4).trans rfl; have hfz12_0 := blk_frozen BK236.out 0; have hfz12_1 := blk_frozen BK236.out 1; have hfz12_2 := blk_frozen BK236.out 2; have hfz12_3 := blk_frozen BK236.out 3; have hfz12_4 := blk_frozen BK236.out 4) | ((with_reducible refine gate_callee (f := 102) rfl ?_); refine goesL_ (some 16) rfl rfl Try.func102 (by kernel_rfl) rfl #[.int .i64 a0_3] rfl (by (try simp only [List.map_toArray, List.map_cons, List.map_nil]); first | done | rfl | (simp only [List.length_drop, List.length_take]; rfl)) ?_; (with_reducible refine (damperref03_Int.calls k a0_3 t240 _ A9.out).mono ?_); rintro e w13 ⟨v241, rfl, ho0, hb⟩; refine ⟨_, rfl, ?_⟩; have n0_ := Aside0.mk (Kd.R_elder' (by (with_reducible repeat (first | apply Kd.R_alloc | apply Kd.R_drewN | apply Kd.R_drew)); exact HO0_4.out) (Kd.R_base ho0) hb); have n1_ := Aside0.mk (Kd.R_lower (Kd.R_new' (Kd.R_newM (M := fun k_ => (P0_4_ k_ ∨ w.heap.size ≤ k_)) ho0 (by first | exact HK.out.1 | exact (show Kept w _ (fun k_ => P0_4_ k_) from by repeat (first | (with_reducible first | exact HK.out | apply Kept.alloc | apply Kept.drewN | apply Kept.drew | refine Kept.setCell ?_ (.inr GW236.out) _) | exact HK.out)).1) (fun k_ h_ => .inr h_)) (Kd.R_lt (by (with_reducible repeat (first | apply Kd.R_alloc | apply Kd.R_drewN | apply Kd.R_drew)); exact HO0_4.out))) (below_size (by repeat (first | (with_reducible first | exact HB.out | apply below_alloc | apply pw_below_drewN | apply below_drew1 | refine below_set ?_ GE236.out) | exact HB.out)))); have n2_ := Aside0.mk (blk_below (g := gb236) (o := .cells #[.int .i64 a0_0, .int .i64 a0_1, .int .u64 a0_2, .int .i64 a0_3, .slice Ao10 l0_4.length co10] 49 (0, 0)) (by (with_reducible repeat (first | refine blk_drewN ?_ _ | refine blk_drew ?_ | refine blk_alloc ?_ _)); exact BK236.out) hb); have n3_ := Aside0.mk (Kept.below (S := (fun k_ => P0_4_ k_)) (by repeat (first | (with_reducible first | exact HK.out | apply Kept.alloc | apply Kept.drewN | apply Kept.drew | refine Kept.setCell ?_ (.inr GW236.out) _) | exact HK.out)) hb); have n4_ := Aside0.mk (below_step (by repeat (first | (with_reducible first | exact HB.out | apply below_alloc | apply pw_below_drewN | apply below_drew1 | refine below_set ?_ GE236.out) | exact HB.out)) hb); clear HO0_4; clear BK236; clear HK; clear HB; have HO0_4 := n0_; have HO242 := n1_; have BK236 := n2_; have HK := n3_; have HB := n4_; clear n0_ n1_ n2_ n3_ n4_; (try clear hb); (try clear hb2); (try clear hk); (try clear hi); (try clear ho0)))
      go_ret
      exact ⟨_, by first | rfl | (simp [errW_none, errW_some] <;> rfl) | (simp [*, errW_none, errW_some] <;> rfl), by (with_reducible repeat (first | apply Kd.R_alloc | apply Kd.R_drewN | apply Kd.R_drew)); exact Kd.R_mono HO242.out (fun _ hk => hk.1.1), by repeat (first | (with_reducible first | exact HB.out | apply below_alloc | apply pw_below_drewN | apply below_drew1 | refine below_set ?_ GE236.out) | exact HB.out), by repeat (first | (with_reducible first | exact HK.out | apply Kept.alloc | apply Kept.drewN | apply Kept.drew | refine Kept.setCell ?_ (.inr GW236.out) _) | exact HK.out)⟩
    · rw [if_neg c8] at H
      have c8b0 : (a0_0 == 2) = false := beq_eq_false_iff_ne.mpr c8
      have c8b1 : (a0_0 != 2) = true := bne_iff_ne.mpr c8
      by_cases c14 : a0_0 = 3
      · rw [if_pos c14] at H
        have c14b0 : (a0_0 == 3) = true := beq_iff_eq.mpr c14
        have c14b1 : (a0_0 != 3) = false := bne_eq_false_iff_eq.mpr c14
        clear c14
        replace H := Option.bind_eq_some_iff.mp H
        obtain ⟨t243, A150, H⟩ := H
        replace H : (some t243) = some r := H
        have A15 := Aside0.mk A150
        clear A150
        obtain rfl := Option.some.inj H
        obtain ⟨Ao16, co16, eo16⟩ := Kd.R_slice HO0_4.out
        subst eo16
        go_enter Try.func41, Try.ntmps41
        go_wp2_with (first | ((with_reducible refine gate_dst (N := 1) rfl ?_); refine box_event ?hg (N := 1) ?hd (cs := #[.int .i64 a0_0, .int .i64 a0_1, .int .u64 a0_2, .int .i64 a0_3, .slice Ao16 l0_4.length co16]) (t := 49) ?hr ?_; (case hd => rfl); (case hg => rfl); (case hr => first | (go_simp; done) | (go_simp; rfl)); intro gb236 hg w17 hbox hb; have n0_ := Aside0.mk (Kd.R_below (by (with_reducible repeat (first | apply Kd.R_alloc | apply Kd.R_drewN | apply Kd.R_drew)); exact HO0_4.out) hb); have n1_ := Aside0.mk (Kept.below (S := (fun k_ => P0_4_ k_)) (by repeat (first | (with_reducible first | exact HK.out | apply Kept.alloc | apply Kept.drewN | apply Kept.drew) | exact HK.out)) hb); have n2_ := Aside0.mk (below_step (by repeat (first | (with_reducible first | exact HB.out | apply below_alloc | apply pw_below_drewN | apply below_drew1) | exact HB.out)) hb); have n3_ := Aside0.mk (hbox); have n4_ := Aside0.mk ((by rw [hg]; exact (by first | exact HK.out.1 | exact (show Kept w _ (fun k_ => P0_4_ k_) from by repeat (first | (with_reducible first | exact HK.out | apply Kept.alloc | apply Kept.drewN | apply Kept.drew) | exact HK.out)).1) : w.heap.size ≤ gb236)); have n5_ := Aside0.mk ((by rw [hg]; exact (below_size (by repeat (first | (with_reducible first | exact HB.out | apply below_alloc | apply pw_below_drewN | apply below_drew1) | exact HB.out))) : w0.heap.size ≤ gb236)); clear HO0_4; clear HK; clear HB; have HO0_4 := n0_; have HK := n1_; have HB := n2_; have BK236 := n3_; have GW236 := n4_; have GE236 := n5_; clear n0_ n1_ n2_ n3_ n4_ n5_; clear hb hbox hg; have hcz18_0 : w17.cell? ⟨gb236, 0, none⟩ = some (.int .i64 a0_0) := (blk_cell BK236.out 0).trans rfl; have hcz18_1 : w17.cell? ⟨gb236, 1, none⟩ = some (.int .i64 a0_1) := (blk_cell BK236.out 1).trans rfl; have hcz18_2 : w17.cell? ⟨gb236, 2, none⟩ = some (.int .u64 a0_2) := (blk_cell BK236.out 2).trans rfl; have hcz18_3 : w17.cell? ⟨gb236, 3, none⟩ = some (.int .i64 a0_3) := (blk_cell BK236.out 3).trans rfl; have hcz18_4 : w17.cell? ⟨gb236, 4, none⟩ = some (.slice Ao16 l0_4.length co16) := (blk_cell BK236.out 4).trans rfl; have hfz18_0 := blk_frozen BK236.out 0; have hfz18_1 := blk_frozen BK236.out 1; have hfz18_2 := blk_frozen BK236.out 2; have hfz18_3 := blk_frozen BK236.out 3; have hfz18_4 := blk_frozen BK236.out 4) | ((with_reducible refine gate_callee (f := 103) rfl ?_); refine goesL_ (some 21) rfl rfl Try.func103 (by kernel_rfl) rfl #[.int .u64 a0_2] rfl (by (try simp only [List.map_toArray, List.map_cons, List.map_nil]); first | done | rfl | (simp only [List.length_drop, List.length_take]; rfl)) ?_; (with_reducible refine (damperref03_Num.calls k a0_2 t243 _ A15.out).mono ?_); rintro e w19 ⟨v244, rfl, ho0, hb⟩; refine ⟨_, rfl, ?_⟩; have n0_ := Aside0.mk (Kd.R_elder' (by (with_reducible repeat (first | apply Kd.R_alloc | apply Kd.R_drewN | apply Kd.R_drew)); exact HO0_4.out) (Kd.R_base ho0) hb); have n1_ := Aside0.mk (Kd.R_lower (Kd.R_new' (Kd.R_newM (M := fun k_ => (P0_4_ k_ ∨ w.heap.size ≤ k_)) ho0 (by first | exact HK.out.1 | exact (show Kept w _ (fun k_ => P0_4_ k_) from by repeat (first | (with_reducible first | exact HK.out | apply Kept.alloc | apply Kept.drewN | apply Kept.drew | refine Kept.setCell ?_ (.inr GW236.out) _) | exact HK.out)).1) (fun k_ h_ => .inr h_)) (Kd.R_lt (by (with_reducible repeat (first | apply Kd.R_alloc | apply Kd.R_drewN | apply Kd.R_drew)); exact HO0_4.out))) (below_size (by repeat (first | (with_reducible first | exact HB.out | apply below_alloc | apply pw_below_drewN | apply below_drew1 | refine below_set ?_ GE236.out) | exact HB.out)))); have n2_ := Aside0.mk (blk_below (g := gb236) (o := .cells #[.int .i64 a0_0, .int .i64 a0_1, .int .u64 a0_2, .int .i64 a0_3, .slice Ao16 l0_4.length co16] 49 (0, 0)) (by (with_reducible repeat (first | refine blk_drewN ?_ _ | refine blk_drew ?_ | refine blk_alloc ?_ _)); exact BK236.out) hb); have n3_ := Aside0.mk (Kept.below (S := (fun k_ => P0_4_ k_)) (by repeat (first | (with_reducible first | exact HK.out | apply Kept.alloc | apply Kept.drewN | apply Kept.drew | refine Kept.setCell ?_ (.inr GW236.out) _) | exact HK.out)) hb); have n4_ := Aside0.mk (below_step (by repeat (first | (with_reducible first | exact HB.out | apply below_alloc | apply pw_below_drewN | apply below_drew1 | refine below_set ?_ GE236.out) | exact HB.out)) hb); clear HO0_4; clear BK236; clear HK; clear HB; have HO0_4 := n0_; have HO245 := n1_; have BK236 := n2_; have HK := n3_; have HB := n4_; clear n0_ n1_ n2_ n3_ n4_; (try clear hb); (try clear hb2); (try clear hk); (try clear hi); (try clear ho0)))
        go_ret
        exact ⟨_, by first | rfl | (simp [errW_none, errW_some] <;> rfl) | (simp [*, errW_none, errW_some] <;> rfl), by (with_reducible repeat (first | apply Kd.R_alloc | apply Kd.R_drewN | apply Kd.R_drew)); exact Kd.R_mono HO245.out (fun _ hk => hk.1.1), by repeat (first | (with_reducible first | exact HB.out | apply below_alloc | apply pw_below_drewN | apply below_drew1 | refine below_set ?_ GE236.out) | exact HB.out), by repeat (first | (with_reducible first | exact HK.out | apply Kept.alloc | apply Kept.drewN | apply Kept.drew | refine Kept.setCell ?_ (.inr GW236.out) _) | exact HK.out)⟩
      · rw [if_neg c14] at H
        have c14b0 : (a0_0 == 3) = false := beq_eq_false_iff_ne.mpr c14
        have c14b1 : (a0_0 != 3) = true := bne_iff_ne.mpr c14
        by_cases c20 : a0_0 = 4
        · rw [if_pos c20] at H
          have c20b0 : (a0_0 == 4) = true := beq_iff_eq.mpr c20
          have c20b1 : (a0_0 != 4) = false := bne_eq_false_iff_eq.mpr c20
          clear c20
          obtain rfl := Option.some.inj H
          obtain ⟨Ao21, co21, eo21⟩ := Kd.R_slice HO0_4.out
          subst eo21
          go_enter Try.func41, Try.ntmps41
          go_wp2_with (first | ((with_reducible refine gate_dst (N := 1) rfl ?_); refine box_event ?hg (N := 1) ?hd (cs := #[.int .i64 a0_0, .int .i64 a0_1, .int .u64 a0_2, .int .i64 a0_3, .slice Ao21 l0_4.length co21]) (t := 49) ?hr ?_; (case hd => rfl); (case hg => rfl); (case hr => first | (go_simp; done) | (go_simp; rfl)); intro gb236 hg w22 hbox hb; have n0_ := Aside0.mk (Kd.R_below (by (with_reducible repeat (first | apply Kd.R_alloc | apply Kd.R_drewN | apply Kd.R_drew)); exact HO0_4.out) hb); have n1_ := Aside0.mk (Kept.below (S := (fun k_ => P0_4_ k_)) (by repeat (first | (with_reducible first | exact HK.out | apply Kept.alloc | apply Kept.drewN | apply Kept.drew) | exact HK.out)) hb); have n2_ := Aside0.mk (below_step (by repeat (first | (with_reducible first | exact HB.out | apply below_alloc | apply pw_below_drewN | apply below_drew1) | exact HB.out)) hb); have n3_ := Aside0.mk (hbox); have n4_ := Aside0.mk ((by rw [hg]; exact (by first | exact HK.out.1 | exact (show Kept w _ (fun k_ => P0_4_ k_) from by repeat (first | (with_reducible first | exact HK.out | apply Kept.alloc | apply Kept.drewN | apply Kept.drew) | exact HK.out)).1) : w.heap.size ≤ gb236)); have n5_ := Aside0.mk ((by rw [hg]; exact (below_size (by repeat (first | (with_reducible first | exact HB.out | apply below_alloc | apply pw_below_drewN | apply below_drew1) | exact HB.out))) : w0.heap.size ≤ gb236)); clear HO0_4; clear HK; clear HB; have HO0_4 := n0_; have HK := n1_; have HB := n2_; have BK236 := n3_; have GW236 := n4_; have GE236 := n5_; clear n0_ n1_ n2_ n3_ n4_ n5_; clear hb hbox hg; have hcz23_0 : w22.cell? ⟨gb236, 0, none⟩ = some (.int .i64 a0_0) := (blk_cell BK236.out 0).trans rfl; have hcz23_1 : w22.cell? ⟨gb236, 1, none⟩ = some (.int .i64 a0_1) := (blk_cell BK236.out 1).trans rfl; have hcz23_2 : w22.cell? ⟨gb236, 2, none⟩ = some (.int .u64 a0_2) := (blk_cell BK236.out 2).trans rfl; have hcz23_3 : w22.cell? ⟨gb236, 3, none⟩ = some (.int .i64 a0_3) := (blk_cell BK236.out 3).trans rfl; have hcz23_4 : w22.cell? ⟨gb236, 4, none⟩ = some (.slice Ao21 l0_4.length co21) := (blk_cell BK236.out 4).trans rfl; have hfz23_0 := blk_frozen BK236.out 0; have hfz23_1 := blk_frozen BK236.out 1; have hfz23_2 := blk_frozen BK236.out 2; have hfz23_3 := blk_frozen BK236.out 3; have hfz23_4 := blk_frozen BK236.out 4))
          go_ret
          exact ⟨_, by first | rfl | (simp [errW_none, errW_some] <;> rfl) | (simp [*, errW_none, errW_some] <;> rfl), by (with_reducible repeat (first | apply Kd.R_alloc | apply Kd.R_drewN | apply Kd.R_drew)); exact HO0_4.out, by repeat (first | (with_reducible first | exact HB.out | apply below_alloc | apply pw_below_drewN | apply below_drew1 | refine below_set ?_ GE236.out) | exact HB.out), by repeat (first | (with_reducible first | exact HK.out | apply Kept.alloc | apply Kept.drewN | apply Kept.drew | refine Kept.setCell ?_ (.inr GW236.out) _) | exact HK.out)⟩
        · rw [if_neg c20] at H
          have c20b0 : (a0_0 == 4) = false := beq_eq_false_iff_ne.mpr c20
          have c20b1 : (a0_0 != 4) = true := bne_iff_ne.mpr c20
          obtain rfl := Option.some.inj H
          obtain ⟨Ao24, co24, eo24⟩ := Kd.R_slice HO0_4.out
          subst eo24
          go_enter Try.func41, Try.ntmps41
          go_wp2_with (first | ((with_reducible refine gate_dst (N := 1) rfl ?_); refine box_event ?hg (N := 1) ?hd (cs := #[.int .i64 a0_0, .int .i64 a0_1, .int .u64 a0_2, .int .i64 a0_3, .slice Ao24 l0_4.length co24]) (t := 49) ?hr ?_; (case hd => rfl); (case hg => rfl); (case hr => first | (go_simp; done) | (go_simp; rfl)); intro gb236 hg w25 hbox hb; have n0_ := Aside0.mk (Kd.R_below (by (with_reducible repeat (first | apply Kd.R_alloc | apply Kd.R_drewN | apply Kd.R_drew)); exact HO0_4.out) hb); have n1_ := Aside0.mk (Kept.below (S := (fun k_ => P0_4_ k_)) (by repeat (first | (with_reducible first | exact HK.out | apply Kept.alloc | apply Kept.drewN | apply Kept.drew) | exact HK.out)) hb); have n2_ := Aside0.mk (below_step (by repeat (first | (with_reducible first | exact HB.out | apply below_alloc | apply pw_below_drewN | apply below_drew1) | exact HB.out)) hb); have n3_ := Aside0.mk (hbox); have n4_ := Aside0.mk ((by rw [hg]; exact (by first | exact HK.out.1 | exact (show Kept w _ (fun k_ => P0_4_ k_) from by repeat (first | (with_reducible first | exact HK.out | apply Kept.alloc | apply Kept.drewN | apply Kept.drew) | exact HK.out)).1) : w.heap.size ≤ gb236)); have n5_ := Aside0.mk ((by rw [hg]; exact (below_size (by repeat (first | (with_reducible first | exact HB.out | apply below_alloc | apply pw_below_drewN | apply below_drew1) | exact HB.out))) : w0.heap.size ≤ gb236)); clear HO0_4; clear HK; clear HB; have HO0_4 := n0_; have HK := n1_; have HB := n2_; have BK236 := n3_; have GW236 := n4_; have GE236 := n5_; clear n0_ n1_ n2_ n3_ n4_ n5_; clear hb hbox hg; have hcz26_0 : w25.cell? ⟨gb236, 0, none⟩ = some (.int .i64 a0_0) := (blk_cell BK236.out 0).trans rfl; have hcz26_1 : w25.cell? ⟨gb236, 1, none⟩ = some (.int .i64 a0_1) := (blk_cell BK236.out 1).trans rfl; have hcz26_2 : w25.cell? ⟨gb236, 2, none⟩ = some (.int .u64 a0_2) := (blk_cell BK236.out 2).trans rfl; have hcz26_3 : w25.cell? ⟨gb236, 3, none⟩ = some (.int .i64 a0_3) := (blk_cell BK236.out 3).trans rfl; have hcz26_4 : w25.cell? ⟨gb236, 4, none⟩ = some (.slice Ao24 l0_4.length co24) := (blk_cell BK236.out 4).trans rfl; have hfz26_0 := blk_frozen BK236.out 0; have hfz26_1 := blk_frozen BK236.out 1; have hfz26_2 := blk_frozen BK236.out 2; have hfz26_3 := blk_frozen BK236.out 3; have hfz26_4 := blk_frozen BK236.out 4))
          go_ret
          exact ⟨_, by first | rfl | (simp [errW_none, errW_some] <;> rfl) | (simp [*, errW_none, errW_some] <;> rfl), by first | exact Kd.R_nil _ _ _ _ _ | exact Kd.N_nil _ _ _ _ _ | exact Kd.V_nil _ _ _ _ _ | exact Kd.Q_nil _ _ _ _ _ | exact Kd.S_nil _ _ _ _ _, by repeat (first | (with_reducible first | exact HB.out | apply below_alloc | apply pw_below_drewN | apply below_drew1 | refine below_set ?_ GE236.out) | exact HB.out), by repeat (first | (with_reducible first | exact HK.out | apply Kept.alloc | apply Kept.drewN | apply Kept.drew | refine Kept.setCell ?_ (.inr GW236.out) _) | exact HK.out)⟩

end Go.Proofs.Ytalpemoodollpaa.P
/- damperlaw03's form and put. -/
namespace Go.Proofs.Ytalpemoodollpaa.P
open Go.RowKit Go.Proofs.YtalpemoodollpaaW.PrintWords Go.Proofs.YtalpemoodollpaaW.PrintLast Go.Proofs.YtalpemoodollpaaW.PrintMore
set_option linter.unusedVariables false
set_option linter.unusedSimpArgs false

/-- What the document says that a part puts. -/
def partForm (p : S49) : List Int :=
  if p.f0 = 1 then (if p.f1 < 1 ∨ 8 < p.f1 then [] else uintForm p.f2.toNat p.f1.toNat) else if p.f0 = 2 then intForm p.f3 else if p.f0 = 3 then numForm p.f2.toNat else if p.f0 = 4 then p.f4 else []
def partVal (p : S49) (A : Option Addr) (c : Nat) : Value := .agg #[.int .i64 p.f0, .int .i64 p.f1, .int .u64 p.f2, .int .i64 p.f3, .slice A p.f4.length c]
theorem WF49.n {p : S49} (h : WF49 p) : 0 ≤ p.f2 ∧ p.f2 < 18446744073709551616 := row.wf_u64 h.2.2.1
theorem WF49.s {p : S49} (h : WF49 p) : -9223372036854775808 ≤ p.f3 ∧ p.f3 ≤ 9223372036854775807 := row.wf_i64 h.2.2.2.1
set_option maxRecDepth 100000 in
set_option maxHeartbeats 2000000 in
theorem law03_form_calls (p : S49) (A : Option Addr) (c : Nat) (w : World) (hw : WF49 p) (hc : p.f4.length ≤ c) (hC : Kd.C (Kd.int .u8) w A p.f4.length p.f4) :
    Calls Try.prog 41 #[.agg #[.int .i64 p.f0, .int .i64 p.f1, .int .u64 p.f2, .int .i64 p.f3, .slice A p.f4.length c]] w fun e w' => ∃ B m, e = .returned (.slice B (partForm p).length m) ∧ (partForm p).length ≤ m ∧ Kd.C (Kd.int .u8) w' B (partForm p).length (partForm p) ∧ Below w.heap.size w w' := by
  obtain ⟨f0, f1, f2, f3, f4⟩ := p
  have hn := hw.n
  have hs := hw.s
  generalize hF : partForm ⟨f0, f1, f2, f3, f4⟩ = F
  unfold partForm at hF
  dsimp only at *
  have HC := Aside0.mk hC
  have HL := Aside0.mk hc
  clear hw hC hc
  by_cases h1 : f0 = 1
  · subst h1
    rw [if_pos rfl] at hF
    have hX : damperref03_Uint.f 12 f2 f1 = some F := by
      rw [← hF]
      by_cases h : f1 < 1 ∨ 8 < f1
      · rw [if_pos h, refUint_none f2 f1 h 12 (by omega)]
      · rw [if_neg h, refUint f2 f1 hn.1 hn.2 (by omega) (by omega) 12 (by omega)]
    have HX := Aside0.mk hX
    clear hX hF hn hs
    have HA := Aside0.mk (below_alloc (Below.refl w.heap.size w) (.cells #[.int .i64 1, .int .i64 f1, .int .u64 f2, .int .i64 f3, .slice A f4.length c] 49))
    go_enter Try.func41, Try.ntmps41
    go_wp2_with fail
    refine (damperref03_Uint.calls 12 f2 f1 F _ HX.out).mono ?_
    rintro e w1 ⟨v1, rfl, hR, hb⟩
    obtain ⟨X1, x1, rfl, hq, hC⟩ := Kd.R_reads hR
    have CX := Aside0.mk hC
    have QX := Aside0.mk hq
    have B1 := Aside0.mk (Below.trans HA.out (Below.mono hb HA.out.size))
    clear hR hb hC hq HA
    go_wp2
    go_ret
    exact ⟨X1, x1, rfl, QX.out, CX.out, B1.out⟩
  · by_cases h2 : f0 = 2
    · subst h2
      rw [if_neg h1, if_pos rfl] at hF
      have hX : damperref03_Int.f 12 f3 = some F := by
        rw [← hF, refInt f3 hs.1 hs.2 12 (by omega)]
      have HX := Aside0.mk hX
      clear hX hF hn hs h1
      have HA := Aside0.mk (below_alloc (Below.refl w.heap.size w) (.cells #[.int .i64 2, .int .i64 f1, .int .u64 f2, .int .i64 f3, .slice A f4.length c] 49))
      go_enter Try.func41, Try.ntmps41
      go_wp2_with fail
      refine (damperref03_Int.calls 12 f3 F _ HX.out).mono ?_
      rintro e w1 ⟨v1, rfl, hR, hb⟩
      obtain ⟨X1, x1, rfl, hq, hC⟩ := Kd.R_reads hR
      have CX := Aside0.mk hC
      have QX := Aside0.mk hq
      have B1 := Aside0.mk (Below.trans HA.out (Below.mono hb HA.out.size))
      clear hR hb hC hq HA
      go_wp2
      go_ret
      exact ⟨X1, x1, rfl, QX.out, CX.out, B1.out⟩
    · by_cases h3 : f0 = 3
      · subst h3
        rw [if_neg h1, if_neg h2, if_pos rfl] at hF
        have hX : damperref03_Num.f 12 f2 = some F := by
          rw [← hF, refNum f2 hn.1 hn.2 12 (by omega)]
        have HX := Aside0.mk hX
        clear hX hF hn hs h1 h2
        have HA := Aside0.mk (below_alloc (Below.refl w.heap.size w) (.cells #[.int .i64 3, .int .i64 f1, .int .u64 f2, .int .i64 f3, .slice A f4.length c] 49))
        go_enter Try.func41, Try.ntmps41
        go_wp2_with fail
        refine (damperref03_Num.calls 12 f2 F _ HX.out).mono ?_
        rintro e w1 ⟨v1, rfl, hR, hb⟩
        obtain ⟨X1, x1, rfl, hq, hC⟩ := Kd.R_reads hR
        have CX := Aside0.mk hC
        have QX := Aside0.mk hq
        have B1 := Aside0.mk (Below.trans HA.out (Below.mono hb HA.out.size))
        clear hR hb hC hq HA
        go_wp2
        go_ret
        exact ⟨X1, x1, rfl, QX.out, CX.out, B1.out⟩
      · by_cases h4 : f0 = 4
        · subst h4
          rw [if_neg h1, if_neg h2, if_neg h3, if_pos rfl] at hF
          subst hF
          clear hn hs h1 h2 h3
          have HA := Aside0.mk (below_alloc (Below.refl w.heap.size w) (.cells #[.int .i64 4, .int .i64 f1, .int .u64 f2, .int .i64 f3, .slice A f4.length c] 49))
          have HC2 := Aside0.mk (Kd.C_alloc HC.out (.cells #[.int .i64 4, .int .i64 f1, .int .u64 f2, .int .i64 f3, .slice A f4.length c] 49))
          go_enter Try.func41, Try.ntmps41
          go_wp2
          go_ret
          exact ⟨A, c, rfl, HL.out, HC2.out, HA.out⟩
        · rw [if_neg h1, if_neg h2, if_neg h3, if_neg h4] at hF
          subst hF
          clear hn hs
          have HA := Aside0.mk (below_alloc (Below.refl w.heap.size w) (.cells #[.int .i64 f0, .int .i64 f1, .int .u64 f2, .int .i64 f3, .slice A f4.length c] 49))
          have HC2 := Aside0.mk (Kd.C_nil (Kd.int .u8) (w.alloc (.cells #[.int .i64 f0, .int .i64 f1, .int .u64 f2, .int .i64 f3, .slice A f4.length c] 49)))
          go_enter Try.func41, Try.ntmps41
          go_wp2
          go_ret
          exact ⟨none, 0, rfl, Nat.le_refl _, HC2.out, HA.out⟩
theorem WPost.of_alloc {w w' : World} {g : Nat} {row : Option Nat} {ys : List Int} {o : Obj} (h : WPost (w.alloc o) g row ys w') : WPost w g row ys w' := by
  obtain ⟨row', hs, hr, hf⟩ := h
  refine ⟨row', hs, hr.imp_right (fun ⟨b, hb, hl⟩ => ⟨b, hb, by rw [World.size_alloc] at hl; omega⟩), ((Fr.refl w (fun k => k = g ∨ row = some k)).alloc o).trans hf (fun _ _ h => h)⟩
theorem WS.post {w : World} {g : Nat} {row : Option Nat} {xs : List Int} (h : WS w g row xs) (o : Obj) : WPost w g row xs (w.alloc o) :=
  ⟨row, h.alloc o, .inl rfl, (Fr.refl w _).alloc o⟩
set_option maxRecDepth 100000 in
set_option maxHeartbeats 2000000 in
theorem law03_put_calls (g : Nat) (row : Option Nat) (xs : List Int) (p : S49) (A : Option Addr) (c : Nat) (w : World) (hw : WS w g row xs) (hf : WF49 p) (hC : Kd.C (Kd.int .u8) w A p.f4.length p.f4) (hl : xs.length + p.f4.length + 100 ≤ 140737488355328) :
    Calls Try.prog 42 #[.pointer (some ⟨g, 0, none⟩), .agg #[.int .i64 p.f0, .int .i64 p.f1, .int .u64 p.f2, .int .i64 p.f3, .slice A p.f4.length c]] w fun e w' => e = .returned (.pointer (some ⟨g, 0, none⟩)) ∧ WPost w g row (xs ++ partForm p) w' := by
  obtain ⟨f0, f1, f2, f3, f4⟩ := p
  have hn := hf.n
  have hs := hf.s
  generalize hF : partForm ⟨f0, f1, f2, f3, f4⟩ = F
  unfold partForm at hF
  dsimp only at *
  clear hf
  have hten := numForm_ten f2 hn.2
  by_cases h1 : f0 = 1
  · subst h1
    rw [if_pos rfl] at hF
    by_cases hk : f1 < 1 ∨ 8 < f1
    · rw [if_pos hk] at hF
      subst hF
      have HX := Aside0.mk (octets_Writer_Uint.none g f2 f1 (w.alloc (.cells #[.int .i64 1, .int .i64 f1, .int .u64 f2, .int .i64 f3, .slice A f4.length c] 49)) hk)
      have HS := Aside0.mk hw
      clear hn hs hw hl hten hk
      go_enter Try.func42, Try.ntmps42
      go_wp2_with fail
      refine HX.out.mono ?_
      rintro e w1 ⟨rfl, rfl⟩
      go_wp2
      go_ret
      exact ⟨rfl, by rw [List.append_nil]; exact HS.out.post _⟩
    · rw [if_neg hk] at hF
      subst hF
      have HX := Aside0.mk (octets_Writer_Uint.calls g row xs f2 f1 (w.alloc (.cells #[.int .i64 1, .int .i64 f1, .int .u64 f2, .int .i64 f3, .slice A f4.length c] 49)) hn.1 (hw.alloc _) (by omega) (by omega) (by omega))
      clear hn hs hw hl hten hk
      go_enter Try.func42, Try.ntmps42
      go_wp2_with fail
      refine HX.out.mono ?_
      rintro e w1 ⟨rfl, hp⟩
      have HP := Aside0.mk hp
      clear hp
      go_wp2
      go_ret
      exact ⟨rfl, HP.out.of_alloc⟩
  · by_cases h2 : f0 = 2
    · rw [if_neg h1, if_pos h2] at hF
      subst h2
      subst hF
      have HX := Aside0.mk (octets_Writer_Int.calls g row xs f3 (w.alloc (.cells #[.int .i64 2, .int .i64 f1, .int .u64 f2, .int .i64 f3, .slice A f4.length c] 49)) hs.1 hs.2 (hw.alloc _) (by omega))
      clear hn hs hw hl hten h1 hC
      go_enter Try.func42, Try.ntmps42
      go_wp2_with fail
      refine HX.out.mono ?_
      rintro e w1 ⟨rfl, hp⟩
      have HP := Aside0.mk hp
      clear hp
      go_wp2
      go_ret
      exact ⟨rfl, HP.out.of_alloc⟩
    · by_cases h3 : f0 = 3
      · rw [if_neg h1, if_neg h2, if_pos h3] at hF
        subst h3
        subst hF
        have HX := Aside0.mk (octets_Writer_Num.calls g row xs f2 (w.alloc (.cells #[.int .i64 3, .int .i64 f1, .int .u64 f2, .int .i64 f3, .slice A f4.length c] 49)) hn.1 (hw.alloc _) (by omega))
        clear hn hs hw hl hten h1 h2 hC
        go_enter Try.func42, Try.ntmps42
        go_wp2_with fail
        refine HX.out.mono ?_
        rintro e w1 ⟨rfl, hp⟩
        have HP := Aside0.mk hp
        clear hp
        go_wp2
        go_ret
        exact ⟨rfl, HP.out.of_alloc⟩
      · by_cases h4 : f0 = 4
        · rw [if_neg h1, if_neg h2, if_neg h3, if_pos h4] at hF
          subst h4
          subst hF
          have HX := Aside0.mk (octets_Writer_Raw.calls g row xs f4 A c (w.alloc (.cells #[.int .i64 4, .int .i64 f1, .int .u64 f2, .int .i64 f3, .slice A f4.length c] 49)) (hw.alloc _) (Kd.C_alloc hC _) (by omega))
          clear hn hs hw hl hten h1 h2 h3 hC
          go_enter Try.func42, Try.ntmps42
          go_wp2_with fail
          refine HX.out.mono ?_
          rintro e w1 ⟨rfl, hp⟩
          have HP := Aside0.mk hp
          clear hp
          go_wp2
          go_ret
          exact ⟨rfl, HP.out.of_alloc⟩
        · rw [if_neg h1, if_neg h2, if_neg h3, if_neg h4] at hF
          subst hF
          have HS := Aside0.mk hw
          clear hn hs hw hl hten hC
          go_enter Try.func42, Try.ntmps42
          go_wp2
          go_ret
          exact ⟨rfl, by rw [List.append_nil]; exact HS.out.post _⟩
set_option maxRecDepth 100000 in
set_option maxHeartbeats 2000000 in
theorem law03_put_nil (f0 f1 f2 f3 : Int) (n c : Nat) (A : Option Addr) (w : World) :
    Calls Try.prog 42 #[.pointer none, .agg #[.int .i64 f0, .int .i64 f1, .int .u64 f2, .int .i64 f3, .slice A n c]] w fun e w' => e = .returned (.pointer none) ∧ Below w.heap.size w w' := by
  have HB := Aside0.mk (below_alloc (Below.refl w.heap.size w) (.cells #[.int .i64 f0, .int .i64 f1, .int .u64 f2, .int .i64 f3, .slice A n c] 49))
  by_cases h1 : f0 = 1
  · subst h1
    skip
    go_enter Try.func42, Try.ntmps42
    go_wp2_with fail
    refine (octets_Writer_Uint.nil _ _ _).mono ?_
    rintro e w1 ⟨rfl, rfl⟩
    go_wp2
    go_ret
    exact ⟨rfl, HB.out⟩
  · by_cases h2 : f0 = 2
    · subst h2
      clear h1
      go_enter Try.func42, Try.ntmps42
      go_wp2_with fail
      refine (octets_Writer_Int.nil _ _).mono ?_
      rintro e w1 ⟨rfl, rfl⟩
      go_wp2
      go_ret
      exact ⟨rfl, HB.out⟩
    · by_cases h3 : f0 = 3
      · subst h3
        clear h1 h2
        go_enter Try.func42, Try.ntmps42
        go_wp2_with fail
        refine (octets_Writer_Num.nil _ _).mono ?_
        rintro e w1 ⟨rfl, rfl⟩
        go_wp2
        go_ret
        exact ⟨rfl, HB.out⟩
      · by_cases h4 : f0 = 4
        · subst h4
          clear h1 h2 h3
          go_enter Try.func42, Try.ntmps42
          go_wp2_with fail
          refine (octets_Writer_Raw.nil _ _).mono ?_
          rintro e w1 ⟨rfl, rfl⟩
          go_wp2
          go_ret
          exact ⟨rfl, HB.out⟩
        · go_enter Try.func42, Try.ntmps42
          go_wp2
          go_ret
          exact ⟨rfl, HB.out⟩
end Go.Proofs.Ytalpemoodollpaa.P
/- damperlaw03.got: what a reader reads. -/
namespace Go.Proofs.Ytalpemoodollpaa.P
open Go.RowKit Go.Proofs.YtalpemoodollpaaW.PrintWords Go.Proofs.YtalpemoodollpaaW.PrintLast Go.Proofs.YtalpemoodollpaaW.PrintMore
set_option linter.unusedVariables false
set_option linter.unusedSimpArgs false

theorem RPost.of_alloc {w w' : World} {g : Nat} {row : Option Nat} {s : List Int × Int} {o : Obj} (h : RPost (w.alloc o) g row s w') : RPost w g row s w' :=
  ⟨h.1, ((Fr.refl w (fun k => k = g)).alloc o).trans h.2 (fun _ _ h => h)⟩
theorem RPost.self {w : World} {g : Nat} {row : Option Nat} {s : List Int × Int} (h : RS w g row s) : RPost w g row s w := ⟨h, Fr.refl _ _⟩
/-- Raw, of any length asked. -/
theorem octets_Reader_Raw.any (g : Nat) (row : Option Nat) (s : List Int × Int) (n : Nat) (w : World) (hn : n ≤ 9223372036854775807) (hs : RS w g row s) (hl : s.1.length ≤ 140737488355328) :
    Calls Try.prog 105 #[.pointer (some ⟨g, 0, none⟩), .int .i64 (n : Int)] w fun e w' => ∃ v, e = .returned v ∧ Kd.R (Kd.int .u8) 5 w' w.heap.size (fun _ => True) v (rTake s n).1 ∧ RPost w g row (rTake s n).2.2 w' := by
  have HT := Aside0.mk (octets_Reader_take.calls g row s n w hn hs)
  have hl : (rTake s n).1.length ≤ 140737488355328 := by
    refine Nat.le_trans ?_ hl
    unfold rTake; split; simp; split; simp; simp only [List.length_take]; omega
  have HLT := Aside0.mk hl
  clear hs hl
  generalize rTake s n = T at *
  obtain ⟨xs, ok, st⟩ := T
  simp only at HLT HT ⊢
  have hn0 : 0 ≤ (n : Int) := by omega
  clear hn
  go_enter Try.func105, Try.ntmps105
  go_wp2_with fail
  refine HT.out.mono ?_
  rintro e w' ⟨A, c, rfl, hC, hlc, hY, hP⟩
  have HC := Aside0.mk hC
  have HP := Aside0.mk hP
  clear hC hY hP
  go_wp2_with fail
  refine (bytes_Clone.calls A c xs w' HC.out HLT.out).mono ?_
  rintro e w2 ⟨v, rfl, hR, hB⟩
  have HR := Aside0.mk hR
  have HB := Aside0.mk hB
  clear hR hB
  go_wp2
  go_ret
  have hP := HP.out
  refine ⟨v, rfl, Kd.R_lower HR.out hP.2.size, hP.1.fr (S := fun _ => False) (Fr.of_below HB.out _) (fun h => h) (fun _ _ h => h), hP.2.trans (Fr.of_below HB.out _) (fun _ _ h => h)⟩
/-- What a part reads: N, S, Raw, what is left. -/
def gotF (s : List Int × Int) (p : S49) : Int × Int × List Int × (List Int × Int) :=
  if p.f0 = 1 then ((rUint s p.f1).1, 0, [], (rUint s p.f1).2) else if p.f0 = 2 then (0, unzig (rUint s 8).1, [], (rUint s 8).2) else if p.f0 = 3 then ((rNum s).1, 0, [], (rNum s).2)
  else if p.f0 = 4 then (if p.f1 < 0 then (0, 0, [], s) else (0, 0, (rTake s p.f1.toNat).1, (rTake s p.f1.toNat).2.2)) else (0, 0, [], s)
/-- A box for what is read. -/
def Box5 (W : World) (b : Nat) (n s : Int) (v : Value) (z f : Int) : Prop := W.heap[b]? = some (.cells #[.int .u64 n, .int .i64 s, v, .int .i64 z, .int .i64 f] 81 (0, 0))
theorem Box5.cells {W : World} {b : Nat} {n s z f : Int} {v : Value} (h : Box5 W b n s v z f) : W.cell? ⟨b, 0, none⟩ = some (.int .u64 n) ∧ W.cell? ⟨b, 1, none⟩ = some (.int .i64 s) ∧ W.cell? ⟨b, 2, none⟩ = some v ∧ W.cell? ⟨b, 3, none⟩ = some (.int .i64 z) ∧ W.cell? ⟨b, 4, none⟩ = some (.int .i64 f) :=
  ⟨(blk_cell h 0).trans rfl, (blk_cell h 1).trans rfl, (blk_cell h 2).trans rfl, (blk_cell h 3).trans rfl, (blk_cell h 4).trans rfl⟩
theorem RS.lt {w : World} {g : Nat} {row : Option Nat} {s : List Int × Int} (h : RS w g row s) : g < w.heap.size := by
  obtain ⟨A, c, hb, _⟩ := h
  exact blk_lt hb
theorem RS.far {W : World} {g : Nat} {row : Option Nat} {st : List Int × Int} {b j : Nat} (h : RS W g row st) (hg : b ≠ g) (hr : row ≠ some b) (u : Value) : RS (W.setCell ⟨b, j, none⟩ u) g row st :=
  h.fr ((Fr.refl W (fun k => k = b)).setCell ⟨b, j, none⟩ u (fun _ => rfl)) (fun e => hg e.symm) (fun k hk e => hr (by rw [hk, e]))
theorem RS.far5 {W : World} {g : Nat} {row : Option Nat} {st : List Int × Int} {b : Nat} (h : RS W g row st) (hg : b ≠ g) (hr : row ≠ some b) (n s z f : Int) (v : Value) : RS (((((W.setCell ⟨b, 0, none⟩ (.int .u64 n)).setCell ⟨b, 1, none⟩ (.int .i64 s)).setCell ⟨b, 2, none⟩ v).setCell ⟨b, 3, none⟩ (.int .i64 z)).setCell ⟨b, 4, none⟩ (.int .i64 f)) g row st := (((((h.far hg hr (b := b) (j := 0) (.int .u64 n)).far hg hr (b := b) (j := 1) (.int .i64 s)).far hg hr (b := b) (j := 2) v).far hg hr (b := b) (j := 3) (.int .i64 z)).far hg hr (b := b) (j := 4) (.int .i64 f))
theorem Fr.far5 {w W : World} {S : Nat → Prop} {b : Nat} (h : Fr w W S) (hb : w.heap.size ≤ b) (n s z f : Int) (v : Value) : Fr w (((((W.setCell ⟨b, 0, none⟩ (.int .u64 n)).setCell ⟨b, 1, none⟩ (.int .i64 s)).setCell ⟨b, 2, none⟩ v).setCell ⟨b, 3, none⟩ (.int .i64 z)).setCell ⟨b, 4, none⟩ (.int .i64 f)) S := (Fr.setCell (Fr.setCell (Fr.setCell (Fr.setCell (Fr.setCell h ⟨b, 0, none⟩ (.int .u64 n) (fun hlt => absurd hlt (by show ¬ b < _; omega))) ⟨b, 1, none⟩ (.int .i64 s) (fun hlt => absurd hlt (by show ¬ b < _; omega))) ⟨b, 2, none⟩ v (fun hlt => absurd hlt (by show ¬ b < _; omega))) ⟨b, 3, none⟩ (.int .i64 z) (fun hlt => absurd hlt (by show ¬ b < _; omega))) ⟨b, 4, none⟩ (.int .i64 f) (fun hlt => absurd hlt (by show ¬ b < _; omega)))
theorem Box5.set5 {W : World} {b : Nat} {n0 s0 z0 f0 : Int} {v0 : Value} (h : Box5 W b n0 s0 v0 z0 f0) (n s z f : Int) (v : Value) : Box5 (((((W.setCell ⟨b, 0, none⟩ (.int .u64 n)).setCell ⟨b, 1, none⟩ (.int .i64 s)).setCell ⟨b, 2, none⟩ v).setCell ⟨b, 3, none⟩ (.int .i64 z)).setCell ⟨b, 4, none⟩ (.int .i64 f)) b n s v z f := (blk_set (blk_set (blk_set (blk_set (blk_set h 0 (.int .u64 n)) 1 (.int .i64 s)) 2 v) 3 (.int .i64 z)) 4 (.int .i64 f)).trans (by simp)
theorem RPost.far5 {w W : World} {g : Nat} {row : Option Nat} {st : List Int × Int} {b : Nat} (h : RPost w g row st W) (hb : w.heap.size ≤ b) (hg : g < w.heap.size) (hr : ∀ k, row = some k → k < w.heap.size) (n s z f : Int) (v : Value) : RPost w g row st (((((W.setCell ⟨b, 0, none⟩ (.int .u64 n)).setCell ⟨b, 1, none⟩ (.int .i64 s)).setCell ⟨b, 2, none⟩ v).setCell ⟨b, 3, none⟩ (.int .i64 z)).setCell ⟨b, 4, none⟩ (.int .i64 f)) :=
  ⟨h.1.far5 (by omega) (fun e => by have := hr b e; omega) n s z f v, h.2.far5 hb n s z f v⟩
theorem own_slice {A : Option Addr} {n c k : Nat} (h : A.map (·.block) = some k) : (Value.slice A n c).ownBlock = some k := by
  cases A with
  | none => cases h
  | some a => exact h
theorem C_far5 {W : World} {A : Option Addr} {xs : List Int} {b : Nat} (h : Kd.C (Kd.int .u8) W A xs.length xs) (hb : ∀ k, A.map (·.block) = some k → k ≠ b) (n s z f : Int) (v : Value) : Kd.C (Kd.int .u8) (((((W.setCell ⟨b, 0, none⟩ (.int .u64 n)).setCell ⟨b, 1, none⟩ (.int .i64 s)).setCell ⟨b, 2, none⟩ v).setCell ⟨b, 3, none⟩ (.int .i64 z)).setCell ⟨b, 4, none⟩ (.int .i64 f)) A xs.length xs :=
  Fr.C (S := fun k => k = b) (Fr.setCell (Fr.setCell (Fr.setCell (Fr.setCell (Fr.setCell (Fr.refl W (fun k => k = b)) ⟨b, 0, none⟩ (.int .u64 n) (fun _ => rfl)) ⟨b, 1, none⟩ (.int .i64 s) (fun _ => rfl)) ⟨b, 2, none⟩ v (fun _ => rfl)) ⟨b, 3, none⟩ (.int .i64 z) (fun _ => rfl)) ⟨b, 4, none⟩ (.int .i64 f) (fun _ => rfl)) h (fun k hk e => hb k hk e)
theorem octets_NewReader.calls2 (A : Option Addr) (c : Nat) (bs : List Int) (w : World) (hr : Kd.C (Kd.int .u8) w A bs.length bs) (hl : bs.length ≤ 140737488355328) (hb : Byt bs) :
    Calls Try.prog 60 #[.slice A bs.length c] w fun e w' => ∃ g row, e = .returned (.pointer (some ⟨g, 0, none⟩)) ∧ RS w' g row (bs, 0) ∧ Below w.heap.size w w' ∧ w.heap.size ≤ g ∧ g < w'.heap.size ∧ ∀ k, row = some k → w.heap.size ≤ k ∧ k < w'.heap.size := by
  have HR := Aside0.mk hr
  have HY := Aside0.mk hb
  clear hr hb
  go_enter Try.func60, Try.ntmps60
  go_wp2_with fail
  refine (bytes_Clone.calls A c bs w HR.out hl).mono ?_
  rintro e w' ⟨v0, rfl, hR, hB⟩
  obtain ⟨A1, c1, rfl, hlc, hC⟩ := Kd.R_reads hR
  have hbase := Kd.R_bound hR
  have HC := Aside0.mk hC
  have HB := Aside0.mk hB
  have HBASE := Aside0.mk hbase.1
  clear hR hC hB hbase
  go_wp2
  go_ret
  refine ⟨w'.heap.size, _, rfl, ⟨A1, c1, ?_, hlc, Kd.C_below HC.out (below_alloc (Below.refl _ _) _), rfl, ?_, HY.out⟩, below_alloc HB.out _, HB.out.size, ?_, ?_⟩
  · exact blk_new w' _
  · intro e
    have := HBASE.out w'.heap.size (by cases A1 <;> simp_all [Value.ownBlock])
    omega
  · simp
  · intro k hk
    have := HBASE.out k (by cases A1 <;> simp_all [Value.ownBlock])
    refine ⟨this.2.1, ?_⟩
    rw [World.size_alloc]
    have := this.2.2.1
    omega
set_option maxRecDepth 100000 in
set_option maxHeartbeats 4000000 in
theorem law03_got_calls (g : Nat) (row : Option Nat) (s : List Int × Int) (p : S49) (A : Option Addr) (c : Nat) (w : World) (hs : RS w g row s) (hrow : ∀ k, row = some k → k < w.heap.size) (hw : WF49 p) (hl : s.1.length ≤ 140737488355328) :
    Calls Try.prog 62 #[.pointer (some ⟨g, 0, none⟩), .agg #[.int .i64 p.f0, .int .i64 p.f1, .int .u64 p.f2, .int .i64 p.f3, .slice A p.f4.length c]] w fun e w' =>
      ∃ B m, e = .returned (.agg #[.int .u64 (gotF s p).1, .int .i64 (gotF s p).2.1, .slice B (gotF s p).2.2.1.length m, .int .i64 0, .int .i64 0]) ∧ (gotF s p).2.2.1.length ≤ m ∧ Kd.C (Kd.int .u8) w' B (gotF s p).2.2.1.length (gotF s p).2.2.1 ∧ RPost w g row (gotF s p).2.2.2 w' := by
  have hf1 := Go.Proofs.Ytalpemoodollpaa.row.wf_i64 hw.2.1
  obtain ⟨f0, f1, f2, f3, f4⟩ := p
  generalize hG : gotF s ⟨f0, f1, f2, f3, f4⟩ = G
  unfold gotF at hG
  dsimp only at *
  clear hw
  have hg := hs.lt
  have HGL := Aside0.mk hg
  have HROW := Aside0.mk hrow
  clear hg hrow
  by_cases h1 : f0 = 1
  · rw [if_pos h1] at hG
    subst h1
    have HX := Aside0.mk (octets_Reader_Uint.calls g row s f1 ((w.alloc (.cells #[.int .i64 1, .int .i64 f1, .int .u64 f2, .int .i64 f3, .slice A f4.length c] 49)).alloc (.cells #[.int .u64 0, .int .i64 0, .slice none 0 0, .int .i64 0, .int .i64 0] 81)) ((hs.below (below_alloc (Below.refl _ _) _)).below (below_alloc (Below.refl _ _) _)))
    have HB := Aside0.mk (show Box5 ((w.alloc (.cells #[.int .i64 1, .int .i64 f1, .int .u64 f2, .int .i64 f3, .slice A f4.length c] 49)).alloc (.cells #[.int .u64 0, .int .i64 0, .slice none 0 0, .int .i64 0, .int .i64 0] 81)) (w.heap.size + 1) 0 0 (.slice none 0 0) 0 0 from by
      have := blk_new (w.alloc (.cells #[.int .i64 1, .int .i64 f1, .int .u64 f2, .int .i64 f3, .slice A f4.length c] 49)) (.cells #[.int .u64 0, .int .i64 0, .slice none 0 0, .int .i64 0, .int .i64 0] 81)
      rw [World.size_alloc] at this
      exact this)
    generalize rUint s f1 = T at *
    obtain ⟨tn, ts⟩ := T
    have HG := Aside0.mk hG
    clear hG hs hl hf1
    go_enter Try.func62, Try.ntmps62
    go_wp2_with fail
    refine HX.out.mono ?_
    rintro e w1 ⟨rfl, hp⟩
    have HP := Aside0.mk hp
    have HB1 : Aside0 (Box5 w1 (w.heap.size + 1) 0 0 (.slice none 0 0) 0 0) := ⟨hp.2.blk HB.out (fun hS => by have := HGL.out; omega)⟩
    have HB2 := Aside0.mk (HB1.out.set5 tn 0 0 0 (.slice none 0 0))
    have HP2 := Aside0.mk (HP.out.of_alloc.of_alloc.far5 (b := w.heap.size + 1) (by omega) HGL.out HROW.out tn 0 0 0 (.slice none 0 0))
    clear hp
    obtain ⟨d0, d1, d2, d3, d4⟩ := HB1.out.cells
    have y0 := blk_frozen HB1.out 0
    have y1 := blk_frozen HB1.out 1
    have y2 := blk_frozen HB1.out 2
    have y3 := blk_frozen HB1.out 3
    have y4 := blk_frozen HB1.out 4
    go_wp2
    refine bodyPost_ret (results_cell_row (fn := Try.f62) (p := 4) (ty := 81) rfl _ _ (w.heap.size + 1) 81 #[.int .u64 tn, .int .i64 0, (.slice none 0 0), .int .i64 0, .int .i64 0] (0, 0) _ rfl HB2.out Try.underlying81 rfl (by kernel_rfl)) rfl ?_
    obtain rfl := HG.out
    exact ⟨none, 0, rfl, Nat.le_refl _, Kd.C_nil _ _, HP2.out⟩
  · by_cases h2 : f0 = 2
    · rw [if_neg h1, if_pos h2] at hG
      clear h1
      subst h2
      have HX := Aside0.mk (octets_Reader_Int.calls g row s ((w.alloc (.cells #[.int .i64 2, .int .i64 f1, .int .u64 f2, .int .i64 f3, .slice A f4.length c] 49)).alloc (.cells #[.int .u64 0, .int .i64 0, .slice none 0 0, .int .i64 0, .int .i64 0] 81)) ((hs.below (below_alloc (Below.refl _ _) _)).below (below_alloc (Below.refl _ _) _)))
      have HB := Aside0.mk (show Box5 ((w.alloc (.cells #[.int .i64 2, .int .i64 f1, .int .u64 f2, .int .i64 f3, .slice A f4.length c] 49)).alloc (.cells #[.int .u64 0, .int .i64 0, .slice none 0 0, .int .i64 0, .int .i64 0] 81)) (w.heap.size + 1) 0 0 (.slice none 0 0) 0 0 from by
        have := blk_new (w.alloc (.cells #[.int .i64 2, .int .i64 f1, .int .u64 f2, .int .i64 f3, .slice A f4.length c] 49)) (.cells #[.int .u64 0, .int .i64 0, .slice none 0 0, .int .i64 0, .int .i64 0] 81)
        rw [World.size_alloc] at this
        exact this)
      generalize rUint s 8 = T at *
      obtain ⟨tn, ts⟩ := T
      have HG := Aside0.mk hG
      clear hG hs hl hf1
      go_enter Try.func62, Try.ntmps62
      go_wp2_with fail
      refine HX.out.mono ?_
      rintro e w1 ⟨rfl, hp⟩
      have HP := Aside0.mk hp
      have HB1 : Aside0 (Box5 w1 (w.heap.size + 1) 0 0 (.slice none 0 0) 0 0) := ⟨hp.2.blk HB.out (fun hS => by have := HGL.out; omega)⟩
      have HB2 := Aside0.mk (HB1.out.set5 0 (unzig tn) 0 0 (.slice none 0 0))
      have HP2 := Aside0.mk (HP.out.of_alloc.of_alloc.far5 (b := w.heap.size + 1) (by omega) HGL.out HROW.out 0 (unzig tn) 0 0 (.slice none 0 0))
      clear hp
      obtain ⟨d0, d1, d2, d3, d4⟩ := HB1.out.cells
      have y0 := blk_frozen HB1.out 0
      have y1 := blk_frozen HB1.out 1
      have y2 := blk_frozen HB1.out 2
      have y3 := blk_frozen HB1.out 3
      have y4 := blk_frozen HB1.out 4
      go_wp2
      refine bodyPost_ret (results_cell_row (fn := Try.f62) (p := 4) (ty := 81) rfl _ _ (w.heap.size + 1) 81 #[.int .u64 0, .int .i64 (unzig tn), (.slice none 0 0), .int .i64 0, .int .i64 0] (0, 0) _ rfl HB2.out Try.underlying81 rfl (by kernel_rfl)) rfl ?_
      obtain rfl := HG.out
      exact ⟨none, 0, rfl, Nat.le_refl _, Kd.C_nil _ _, HP2.out⟩
    · by_cases h3 : f0 = 3
      · rw [if_neg h1, if_neg h2, if_pos h3] at hG
        clear h1 h2
        subst h3
        have HX := Aside0.mk (octets_Reader_Num.calls g row s ((w.alloc (.cells #[.int .i64 3, .int .i64 f1, .int .u64 f2, .int .i64 f3, .slice A f4.length c] 49)).alloc (.cells #[.int .u64 0, .int .i64 0, .slice none 0 0, .int .i64 0, .int .i64 0] 81)) ((hs.below (below_alloc (Below.refl _ _) _)).below (below_alloc (Below.refl _ _) _)))
        have HB := Aside0.mk (show Box5 ((w.alloc (.cells #[.int .i64 3, .int .i64 f1, .int .u64 f2, .int .i64 f3, .slice A f4.length c] 49)).alloc (.cells #[.int .u64 0, .int .i64 0, .slice none 0 0, .int .i64 0, .int .i64 0] 81)) (w.heap.size + 1) 0 0 (.slice none 0 0) 0 0 from by
          have := blk_new (w.alloc (.cells #[.int .i64 3, .int .i64 f1, .int .u64 f2, .int .i64 f3, .slice A f4.length c] 49)) (.cells #[.int .u64 0, .int .i64 0, .slice none 0 0, .int .i64 0, .int .i64 0] 81)
          rw [World.size_alloc] at this
          exact this)
        generalize rNum s = T at *
        obtain ⟨tn, ts⟩ := T
        have HG := Aside0.mk hG
        clear hG hs hl hf1
        go_enter Try.func62, Try.ntmps62
        go_wp2_with fail
        refine HX.out.mono ?_
        rintro e w1 ⟨rfl, hp⟩
        have HP := Aside0.mk hp
        have HB1 : Aside0 (Box5 w1 (w.heap.size + 1) 0 0 (.slice none 0 0) 0 0) := ⟨hp.2.blk HB.out (fun hS => by have := HGL.out; omega)⟩
        have HB2 := Aside0.mk (HB1.out.set5 tn 0 0 0 (.slice none 0 0))
        have HP2 := Aside0.mk (HP.out.of_alloc.of_alloc.far5 (b := w.heap.size + 1) (by omega) HGL.out HROW.out tn 0 0 0 (.slice none 0 0))
        clear hp
        obtain ⟨d0, d1, d2, d3, d4⟩ := HB1.out.cells
        have y0 := blk_frozen HB1.out 0
        have y1 := blk_frozen HB1.out 1
        have y2 := blk_frozen HB1.out 2
        have y3 := blk_frozen HB1.out 3
        have y4 := blk_frozen HB1.out 4
        go_wp2
        refine bodyPost_ret (results_cell_row (fn := Try.f62) (p := 4) (ty := 81) rfl _ _ (w.heap.size + 1) 81 #[.int .u64 tn, .int .i64 0, (.slice none 0 0), .int .i64 0, .int .i64 0] (0, 0) _ rfl HB2.out Try.underlying81 rfl (by kernel_rfl)) rfl ?_
        obtain rfl := HG.out
        exact ⟨none, 0, rfl, Nat.le_refl _, Kd.C_nil _ _, HP2.out⟩
      · by_cases h4 : f0 = 4
        · rw [if_neg h1, if_neg h2, if_neg h3, if_pos h4] at hG
          clear h1 h2 h3
          subst h4
          by_cases hneg : f1 < 0
          · rw [if_pos hneg] at hG
            have HX := Aside0.mk (octets_Reader_Raw.neg g f1 ((w.alloc (.cells #[.int .i64 4, .int .i64 f1, .int .u64 f2, .int .i64 f3, .slice A f4.length c] 49)).alloc (.cells #[.int .u64 0, .int .i64 0, .slice none 0 0, .int .i64 0, .int .i64 0] 81)) hneg)
            have HRS := Aside0.mk (show RPost ((w.alloc (.cells #[.int .i64 4, .int .i64 f1, .int .u64 f2, .int .i64 f3, .slice A f4.length c] 49)).alloc (.cells #[.int .u64 0, .int .i64 0, .slice none 0 0, .int .i64 0, .int .i64 0] 81)) g row s ((w.alloc (.cells #[.int .i64 4, .int .i64 f1, .int .u64 f2, .int .i64 f3, .slice A f4.length c] 49)).alloc (.cells #[.int .u64 0, .int .i64 0, .slice none 0 0, .int .i64 0, .int .i64 0] 81)) from RPost.self ((hs.below (below_alloc (Below.refl _ _) _)).below (below_alloc (Below.refl _ _) _)))
            have HB := Aside0.mk (show Box5 ((w.alloc (.cells #[.int .i64 4, .int .i64 f1, .int .u64 f2, .int .i64 f3, .slice A f4.length c] 49)).alloc (.cells #[.int .u64 0, .int .i64 0, .slice none 0 0, .int .i64 0, .int .i64 0] 81)) (w.heap.size + 1) 0 0 (.slice none 0 0) 0 0 from by
              have := blk_new (w.alloc (.cells #[.int .i64 4, .int .i64 f1, .int .u64 f2, .int .i64 f3, .slice A f4.length c] 49)) (.cells #[.int .u64 0, .int .i64 0, .slice none 0 0, .int .i64 0, .int .i64 0] 81)
              rw [World.size_alloc] at this
              exact this)
            have HG := Aside0.mk hG
            clear hG hs hl hf1 hneg
            go_enter Try.func62, Try.ntmps62
            go_wp2_with fail
            refine HX.out.mono ?_
            rintro e w1 ⟨rfl, rfl⟩
            have HB1 := HB
            have HB2 := HB
            have HP2 := Aside0.mk (HRS.out.of_alloc.of_alloc)
            obtain ⟨d0, d1, d2, d3, d4⟩ := HB1.out.cells
            have y0 := blk_frozen HB1.out 0
            have y1 := blk_frozen HB1.out 1
            have y2 := blk_frozen HB1.out 2
            have y3 := blk_frozen HB1.out 3
            have y4 := blk_frozen HB1.out 4
            go_wp2
            refine bodyPost_ret (results_cell_row (fn := Try.f62) (p := 4) (ty := 81) rfl _ _ (w.heap.size + 1) 81 #[.int .u64 0, .int .i64 0, (.slice none 0 0), .int .i64 0, .int .i64 0] (0, 0) _ rfl HB2.out Try.underlying81 rfl (by kernel_rfl)) rfl ?_
            obtain rfl := HG.out
            exact ⟨none, 0, rfl, Nat.le_refl _, Kd.C_nil _ _, HP2.out⟩
          · rw [if_neg hneg] at hG
            obtain ⟨m, rfl⟩ := Int.eq_ofNat_of_zero_le (show 0 ≤ f1 by omega)
            rw [Int.toNat_natCast] at hG
            have HX := Aside0.mk (octets_Reader_Raw.any g row s m ((w.alloc (.cells #[.int .i64 4, .int .i64 (m : Int), .int .u64 f2, .int .i64 f3, .slice A f4.length c] 49)).alloc (.cells #[.int .u64 0, .int .i64 0, .slice none 0 0, .int .i64 0, .int .i64 0] 81)) (by omega) ((hs.below (below_alloc (Below.refl _ _) _)).below (below_alloc (Below.refl _ _) _)) hl)
            have HB := Aside0.mk (show Box5 ((w.alloc (.cells #[.int .i64 4, .int .i64 (m : Int), .int .u64 f2, .int .i64 f3, .slice A f4.length c] 49)).alloc (.cells #[.int .u64 0, .int .i64 0, .slice none 0 0, .int .i64 0, .int .i64 0] 81)) (w.heap.size + 1) 0 0 (.slice none 0 0) 0 0 from by
              have := blk_new (w.alloc (.cells #[.int .i64 4, .int .i64 (m : Int), .int .u64 f2, .int .i64 f3, .slice A f4.length c] 49)) (.cells #[.int .u64 0, .int .i64 0, .slice none 0 0, .int .i64 0, .int .i64 0] 81)
              rw [World.size_alloc] at this
              exact this)
            generalize rTake s m = T at *
            obtain ⟨ts, tok, tst⟩ := T
            have HG := Aside0.mk hG
            clear hG hs hl hf1 hneg
            go_enter Try.func62, Try.ntmps62
            go_wp2_with fail
            refine HX.out.mono ?_
            rintro e w1 ⟨v, rfl, hR, hp⟩
            obtain ⟨B, mm, rfl, hq, hC⟩ := Kd.R_reads hR
            have hbnd := (Kd.R_bound hR).1
            have HC := Aside0.mk hC
            have HQ := Aside0.mk hq
            have HBND := Aside0.mk hbnd
            have HP0 := Aside0.mk hp
            clear hR hC hq hbnd hp
            have HB1 : Aside0 (Box5 w1 (w.heap.size + 1) 0 0 (.slice none 0 0) 0 0) := ⟨HP0.out.2.blk HB.out (fun hS => by have := HGL.out; omega)⟩
            have HB2 := Aside0.mk (HB1.out.set5 0 0 0 0 (.slice B ts.length mm))
            have HP2 := Aside0.mk (HP0.out.of_alloc.of_alloc.far5 (b := w.heap.size + 1) (by omega) HGL.out HROW.out 0 0 0 0 (.slice B ts.length mm))
            have HC2 := Aside0.mk (C_far5 HC.out (b := w.heap.size + 1) (fun k hk e => by have := (HBND.out k (own_slice hk)).2.1; simp only [World.size_alloc] at this; omega) 0 0 0 0 (.slice B ts.length mm))
            obtain ⟨d0, d1, d2, d3, d4⟩ := HB1.out.cells
            have y0 := blk_frozen HB1.out 0
            have y1 := blk_frozen HB1.out 1
            have y2 := blk_frozen HB1.out 2
            have y3 := blk_frozen HB1.out 3
            have y4 := blk_frozen HB1.out 4
            go_wp2
            refine bodyPost_ret (results_cell_row (fn := Try.f62) (p := 4) (ty := 81) rfl _ _ (w.heap.size + 1) 81 #[.int .u64 0, .int .i64 0, (.slice B ts.length mm), .int .i64 0, .int .i64 0] (0, 0) _ rfl HB2.out Try.underlying81 rfl (by kernel_rfl)) rfl ?_
            obtain rfl := HG.out
            exact ⟨B, mm, rfl, HQ.out, HC2.out, HP2.out⟩
        · rw [if_neg h1, if_neg h2, if_neg h3, if_neg h4] at hG
          have HRS := Aside0.mk (show RPost ((w.alloc (.cells #[.int .i64 f0, .int .i64 f1, .int .u64 f2, .int .i64 f3, .slice A f4.length c] 49)).alloc (.cells #[.int .u64 0, .int .i64 0, .slice none 0 0, .int .i64 0, .int .i64 0] 81)) g row s ((w.alloc (.cells #[.int .i64 f0, .int .i64 f1, .int .u64 f2, .int .i64 f3, .slice A f4.length c] 49)).alloc (.cells #[.int .u64 0, .int .i64 0, .slice none 0 0, .int .i64 0, .int .i64 0] 81)) from RPost.self ((hs.below (below_alloc (Below.refl _ _) _)).below (below_alloc (Below.refl _ _) _)))
          have HB := Aside0.mk (show Box5 ((w.alloc (.cells #[.int .i64 f0, .int .i64 f1, .int .u64 f2, .int .i64 f3, .slice A f4.length c] 49)).alloc (.cells #[.int .u64 0, .int .i64 0, .slice none 0 0, .int .i64 0, .int .i64 0] 81)) (w.heap.size + 1) 0 0 (.slice none 0 0) 0 0 from by
            have := blk_new (w.alloc (.cells #[.int .i64 f0, .int .i64 f1, .int .u64 f2, .int .i64 f3, .slice A f4.length c] 49)) (.cells #[.int .u64 0, .int .i64 0, .slice none 0 0, .int .i64 0, .int .i64 0] 81)
            rw [World.size_alloc] at this
            exact this)
          have HG := Aside0.mk hG
          clear hG hs hl hf1
          have HB2 := HB
          have HP2 := Aside0.mk (HRS.out.of_alloc.of_alloc)
          obtain ⟨d0, d1, d2, d3, d4⟩ := HB.out.cells
          have y0 := blk_frozen HB.out 0
          have y1 := blk_frozen HB.out 1
          have y2 := blk_frozen HB.out 2
          have y3 := blk_frozen HB.out 3
          have y4 := blk_frozen HB.out 4
          go_enter Try.func62, Try.ntmps62
          go_wp2
          refine bodyPost_ret (results_cell_row (fn := Try.f62) (p := 4) (ty := 81) rfl _ _ (w.heap.size + 1) 81 #[.int .u64 0, .int .i64 0, (.slice none 0 0), .int .i64 0, .int .i64 0] (0, 0) _ rfl HB2.out Try.underlying81 rfl (by kernel_rfl)) rfl ?_
          obtain rfl := HG.out
          exact ⟨none, 0, rfl, Nat.le_refl _, Kd.C_nil _ _, HP2.out⟩
end Go.Proofs.Ytalpemoodollpaa.P
/- damperref03.ReadInt. -/
namespace Go.Proofs.Ytalpemoodollpaa.P
open Go.RowKit Go.Proofs.YtalpemoodollpaaW.PrintWords Go.Proofs.YtalpemoodollpaaW.PrintLast Go.Proofs.YtalpemoodollpaaW.PrintMore
set_option linter.unusedVariables false
set_option linter.unusedSimpArgs false
theorem R_far5 {W : World} {base b : Nat} {v : Value} {xs : List Int} (h : Kd.R (Kd.int .u8) 5 W base (fun _ => True) v xs) (hb : b < base) (n s z f : Int) (u : Value) : Kd.R (Kd.int .u8) 5 (((((W.setCell ⟨b, 0, none⟩ (.int .u64 n)).setCell ⟨b, 1, none⟩ (.int .i64 s)).setCell ⟨b, 2, none⟩ u).setCell ⟨b, 3, none⟩ (.int .i64 z)).setCell ⟨b, 4, none⟩ (.int .i64 f)) base (fun _ => True) v xs := by
  have h1 : Kd.R (Kd.int .u8) 5 W base (fun k => base ≤ k) v xs := Kd.R_mono (Kd.R_bound h) (fun k hk => hk.2.1)
  exact Kd.R_mono (Kd.R_far (Kd.R_far (Kd.R_far (Kd.R_far (Kd.R_far h1 (p := ⟨b, 0, none⟩) (fun k hk => by show k ≠ b; omega) (.int .u64 n)) (p := ⟨b, 1, none⟩) (fun k hk => by show k ≠ b; omega) (.int .i64 s)) (p := ⟨b, 2, none⟩) (fun k hk => by show k ≠ b; omega) u) (p := ⟨b, 3, none⟩) (fun k hk => by show k ≠ b; omega) (.int .i64 z)) (p := ⟨b, 4, none⟩) (fun k hk => by show k ≠ b; omega) (.int .i64 f)) (fun _ _ => trivial)
theorem below_far5 {w W : World} {b : Nat} (h : Below w.heap.size w W) (hb : w.heap.size ≤ b) (n s z f : Int) (u : Value) : Below w.heap.size w (((((W.setCell ⟨b, 0, none⟩ (.int .u64 n)).setCell ⟨b, 1, none⟩ (.int .i64 s)).setCell ⟨b, 2, none⟩ u).setCell ⟨b, 3, none⟩ (.int .i64 z)).setCell ⟨b, 4, none⟩ (.int .i64 f)) := (below_set (j := 4) (v := (.int .i64 f)) (below_set (j := 3) (v := (.int .i64 z)) (below_set (j := 2) (v := u) (below_set (j := 1) (v := (.int .i64 s)) (below_set (j := 0) (v := (.int .u64 n)) h hb) hb) hb) hb) hb)
def rdInt (l : List Int) : Int × Int × List Int × Int × Int := if l.length < 8 then (0, 0, [], 0, 3) else (0, unzig (beNum (l.take 8)), [], 8, 0)
set_option maxRecDepth 100000 in
set_option maxHeartbeats 2000000 in
theorem refReadInt_calls (A0 : Option Addr) (c0 : Nat) (l0 : List Int) (w : World) (hr0 : Kd.C (Kd.int .u8) w A0 l0.length l0) (hc0 : l0.length ≤ c0) (hb : Byt l0) :
    Calls Try.prog 114 #[.slice A0 l0.length c0] w fun e w' => ∃ v : Value, e = .returned (.agg #[.int .u64 0, .int .i64 (rdInt l0).2.1, v, .int .i64 (rdInt l0).2.2.2.1, .int .i64 (rdInt l0).2.2.2.2]) ∧ Kd.R (Kd.int .u8) 5 w' w.heap.size (fun _ => True) v [] ∧ Below w.heap.size w w' := by
  have hU := refReadUint l0 8 hb 12 (by omega)
  have HU : Aside0 (∃ n S z f : Int, rdInt l0 = (0, S, [], z, f) ∧ rdUint l0 8 = (n, 0, [], z, f) ∧ 0 ≤ n ∧ n < 18446744073709551616 ∧ S = unzig n) := ⟨by
    unfold rdInt rdUint
    rw [if_neg (show ¬ ((8 : Int) < 1 ∨ (8 : Int) < 8) by decide)]
    by_cases h : l0.length < 8
    · rw [if_pos h, if_pos (show (l0.length : Int) < 8 by omega)]
      exact ⟨0, 0, 0, 3, rfl, rfl, by omega, by omega, by decide⟩
    · rw [if_neg h, if_neg (show ¬ (l0.length : Int) < 8 by omega)]
      have hrg := beNum_range (l0.take 8) (hb.take 8)
      rw [show (l0.take 8).length = 8 by rw [List.length_take]; omega] at hrg
      have h2 : ((256 ^ 8 : Nat) : Int) = 18446744073709551616 := by decide
      rw [h2] at hrg
      exact ⟨_, _, _, _, rfl, rfl, hrg.1, hrg.2, rfl⟩⟩
  obtain ⟨n, S, z, f, hI, hN, h0, h1, hS⟩ := HU.out
  rw [hN] at hU
  rw [hI]
  have HX := Aside0.mk hU
  have HR := Aside0.mk hr0
  have HC := Aside0.mk hc0
  have HNN := Aside0.mk (And.intro h0 h1)
  have HS := Aside0.mk hS
  clear hU hI hN HU hr0 hc0 hb h0 h1 hS
  have HB0 := Aside0.mk (show Box5 (w.alloc (.cells #[.int .u64 0, .int .i64 0, .slice none 0 0, .int .i64 0, .int .i64 0] 81)) w.heap.size 0 0 (.slice none 0 0) 0 0 from blk_new w _)
  have HR1 := Aside0.mk (Kd.C_alloc HR.out (.cells #[.int .u64 0, .int .i64 0, .slice none 0 0, .int .i64 0, .int .i64 0] 81))
  have HL0 := Aside0.mk (below_alloc (Below.refl w.heap.size w) (.cells #[.int .u64 0, .int .i64 0, .slice none 0 0, .int .i64 0, .int .i64 0] 81))
  have hX := damperref03_ReadUint.calls 12 A0 c0 l0 8 n 0 [] z f _ HR1.out HC.out HX.out
  go_enter Try.func114, Try.ntmps114
  go_wp2_with fail
  refine hX.mono ?_
  rintro e w1 ⟨v, rfl, hR, hbl⟩
  obtain ⟨A, c, rfl⟩ := Kd.R_slice hR
  have HB1 : Aside0 (Box5 w1 w.heap.size 0 0 (.slice none 0 0) 0 0) := ⟨(hbl.block _ (blk_lt HB0.out)).trans HB0.out⟩
  have HRR := Aside0.mk hR
  have HL1 := Aside0.mk (Below.trans HL0.out (Below.mono hbl HL0.out.size))
  clear hR hbl hX HB0 HR1 HL0
  have hb1 := fun o => (show Box5 (w1.alloc o) w.heap.size 0 0 (.slice none 0 0) 0 0 from blk_alloc HB1.out o)
  have d0 := fun o => (hb1 o).cells.1
  have d1 := fun o => (hb1 o).cells.2.1
  have d2 := fun o => (hb1 o).cells.2.2.1
  have d3 := fun o => (hb1 o).cells.2.2.2.1
  have d4 := fun o => (hb1 o).cells.2.2.2.2
  have y0 := fun o => blk_frozen (hb1 o) 0
  have y1 := fun o => blk_frozen (hb1 o) 1
  have y2 := fun o => blk_frozen (hb1 o) 2
  have y3 := fun o => blk_frozen (hb1 o) 3
  have y4 := fun o => blk_frozen (hb1 o) 4
  clear hb1
  have ht : Int.tmod n 2 = n % 2 := Int.tmod_eq_emod_of_nonneg HNN.out.1
  have hd : Int.tdiv n 2 = n / 2 := Int.tdiv_eq_ediv_of_nonneg HNN.out.1
  by_cases hev : n % 2 = 0
  · skip
    have hS : S = wrap64 (IntKind.u64.wrap (n / 2)) := by
      have h := HS.out
      unfold unzig at h
      rw [h]
      rw [if_pos hev, wrap_u64, wrap64_eq]
      have := HNN.out
      omega
    have hsz : (w.alloc (.cells #[.int .u64 0, .int .i64 0, .slice none 0 0, .int .i64 0, .int .i64 0] 81)).heap.size = w.heap.size + 1 := World.size_alloc _ _
    have HBX := Aside0.mk (show Box5 (w1.alloc (.cells #[.int .u64 0, .int .i64 (wrap64 (IntKind.u64.wrap (n / 2))), .slice A ([] : List Int).length c, .int .i64 z, .int .i64 f] 81)) w.heap.size 0 0 (.slice none 0 0) 0 0 from blk_alloc HB1.out _)
    have HBY := Aside0.mk (HBX.out.set5 0 (wrap64 (IntKind.u64.wrap (n / 2))) z f (.slice A ([] : List Int).length c))
    have HRY := Aside0.mk (R_far5 (Kd.R_alloc HRR.out (.cells #[.int .u64 0, .int .i64 (wrap64 (IntKind.u64.wrap (n / 2))), .slice A ([] : List Int).length c, .int .i64 z, .int .i64 f] 81)) (b := w.heap.size) (by omega) 0 (wrap64 (IntKind.u64.wrap (n / 2))) z f (.slice A ([] : List Int).length c))
    have HLY := Aside0.mk (below_far5 (below_alloc HL1.out (.cells #[.int .u64 0, .int .i64 (wrap64 (IntKind.u64.wrap (n / 2))), .slice A ([] : List Int).length c, .int .i64 z, .int .i64 f] 81)) (Nat.le_refl w.heap.size) 0 (wrap64 (IntKind.u64.wrap (n / 2))) z f (.slice A ([] : List Int).length c))
    have HSS := Aside0.mk hS
    clear hS hsz
    go_wp2
    refine bodyPost_ret (results_cell_row (fn := Try.f114) (p := 2) (ty := 81) rfl _ _ w.heap.size 81 #[.int .u64 0, .int .i64 (wrap64 (IntKind.u64.wrap (n / 2))), .slice A ([] : List Int).length c, .int .i64 z, .int .i64 f] (0, 0) _ rfl HBY.out Try.underlying81 rfl (by kernel_rfl)) rfl ?_
    refine ⟨_, by rw [HSS.out], Kd.R_lower HRY.out (by rw [World.size_alloc]; omega), HLY.out⟩
  · skip
    have hS : S = wrap64 (wrap64 (-wrap64 (IntKind.u64.wrap (n / 2))) - 1) := by
      have h := HS.out
      unfold unzig at h
      rw [h]
      rw [if_neg hev, wrap_u64, wrap64_eq, wrap64_eq, wrap64_eq]
      have := HNN.out
      omega
    have hsz : (w.alloc (.cells #[.int .u64 0, .int .i64 0, .slice none 0 0, .int .i64 0, .int .i64 0] 81)).heap.size = w.heap.size + 1 := World.size_alloc _ _
    have HBX := Aside0.mk (show Box5 (w1.alloc (.cells #[.int .u64 0, .int .i64 (wrap64 (wrap64 (-wrap64 (IntKind.u64.wrap (n / 2))) - 1)), .slice A ([] : List Int).length c, .int .i64 z, .int .i64 f] 81)) w.heap.size 0 0 (.slice none 0 0) 0 0 from blk_alloc HB1.out _)
    have HBY := Aside0.mk (HBX.out.set5 0 (wrap64 (wrap64 (-wrap64 (IntKind.u64.wrap (n / 2))) - 1)) z f (.slice A ([] : List Int).length c))
    have HRY := Aside0.mk (R_far5 (Kd.R_alloc HRR.out (.cells #[.int .u64 0, .int .i64 (wrap64 (wrap64 (-wrap64 (IntKind.u64.wrap (n / 2))) - 1)), .slice A ([] : List Int).length c, .int .i64 z, .int .i64 f] 81)) (b := w.heap.size) (by omega) 0 (wrap64 (wrap64 (-wrap64 (IntKind.u64.wrap (n / 2))) - 1)) z f (.slice A ([] : List Int).length c))
    have HLY := Aside0.mk (below_far5 (below_alloc HL1.out (.cells #[.int .u64 0, .int .i64 (wrap64 (wrap64 (-wrap64 (IntKind.u64.wrap (n / 2))) - 1)), .slice A ([] : List Int).length c, .int .i64 z, .int .i64 f] 81)) (Nat.le_refl w.heap.size) 0 (wrap64 (wrap64 (-wrap64 (IntKind.u64.wrap (n / 2))) - 1)) z f (.slice A ([] : List Int).length c))
    have HSS := Aside0.mk hS
    clear hS hsz
    go_wp2
    refine bodyPost_ret (results_cell_row (fn := Try.f114) (p := 2) (ty := 81) rfl _ _ w.heap.size 81 #[.int .u64 0, .int .i64 (wrap64 (wrap64 (-wrap64 (IntKind.u64.wrap (n / 2))) - 1)), .slice A ([] : List Int).length c, .int .i64 z, .int .i64 f] (0, 0) _ rfl HBY.out Try.underlying81 rfl (by kernel_rfl)) rfl ?_
    refine ⟨_, by rw [HSS.out], Kd.R_lower HRY.out (by rw [World.size_alloc]; omega), HLY.out⟩
end Go.Proofs.Ytalpemoodollpaa.P
/- damperref03.ReadRaw, damperlaw03.read. -/
namespace Go.Proofs.Ytalpemoodollpaa.P
open Go.RowKit Go.Proofs.YtalpemoodollpaaW.PrintWords Go.Proofs.YtalpemoodollpaaW.PrintLast Go.Proofs.YtalpemoodollpaaW.PrintMore
set_option linter.unusedVariables false
set_option linter.unusedSimpArgs false
/-- What ReadRaw tells. -/
def rdRaw (l : List Int) (n : Int) : Int × Int × List Int × Int × Int := if n < 0 then (0, 0, [], 0, 0) else if (l.length : Int) < n then (0, 0, [], 0, 3) else (0, 0, l.take n.toNat, n, 0)
set_option maxRecDepth 100000 in
set_option maxHeartbeats 2000000 in
theorem refReadRaw_calls (A0 : Option Addr) (c0 : Nat) (l0 : List Int) (n : Int) (w : World) (hr0 : Kd.C (Kd.int .u8) w A0 l0.length l0) (hc0 : l0.length ≤ c0) :
    Calls Try.prog 116 #[.slice A0 l0.length c0, .int .i64 n] w fun e w' => ∃ A c, e = .returned (.agg #[.int .u64 (rdRaw l0 n).1, .int .i64 (rdRaw l0 n).2.1, .slice A (rdRaw l0 n).2.2.1.length c, .int .i64 (rdRaw l0 n).2.2.2.1, .int .i64 (rdRaw l0 n).2.2.2.2]) ∧
      (rdRaw l0 n).2.2.1.length ≤ c ∧ (A = A0 ∨ (rdRaw l0 n).2.2.1 = []) ∧ Below w.heap.size w w' := by
  generalize hG : rdRaw l0 n = G
  unfold rdRaw at hG
  have HR := Aside0.mk hr0
  have HC := Aside0.mk hc0
  have HG := Aside0.mk hG
  clear hr0 hG
  by_cases h0 : n < 0
  · have HF : Aside0 (G = (0, 0, [], 0, 0)) := ⟨by have h := HG.out; rw [if_pos h0] at h; exact h.symm⟩
    clear HG
    have HBX := Aside0.mk (show Box5 (w.alloc (.cells #[.int .u64 0, .int .i64 0, .slice none 0 0, .int .i64 0, .int .i64 0] 81)) w.heap.size 0 0 (.slice none 0 0) 0 0 from blk_new w _)
    have HLX := Aside0.mk (below_alloc (Below.refl w.heap.size w) (.cells #[.int .u64 0, .int .i64 0, .slice none 0 0, .int .i64 0, .int .i64 0] 81))
    go_enter Try.func116, Try.ntmps116
    go_wp2
    refine bodyPost_ret (results_cell_row (fn := Try.f116) (p := 4) (ty := 81) rfl _ _ w.heap.size 81 #[.int .u64 0, .int .i64 0, .slice none 0 0, .int .i64 0, .int .i64 0] (0, 0) _ rfl HBX.out Try.underlying81 rfl (by kernel_rfl)) rfl ?_
    obtain rfl := HF.out
    exact ⟨none, 0, rfl, Nat.le_refl _, .inr rfl, HLX.out⟩
  · by_cases h1 : (l0.length : Int) < n
    · have HF : Aside0 (G = (0, 0, [], 0, 3)) := ⟨by have h := HG.out; rw [if_neg h0, if_pos h1] at h; exact h.symm⟩
      clear HG
      have HBX := Aside0.mk (show Box5 (w.alloc (.cells #[.int .u64 0, .int .i64 0, .slice none 0 0, .int .i64 0, .int .i64 3] 81)) w.heap.size 0 0 (.slice none 0 0) 0 3 from blk_new w _)
      have HLX := Aside0.mk (below_alloc (Below.refl w.heap.size w) (.cells #[.int .u64 0, .int .i64 0, .slice none 0 0, .int .i64 0, .int .i64 3] 81))
      go_enter Try.func116, Try.ntmps116
      go_wp2
      refine bodyPost_ret (results_cell_row (fn := Try.f116) (p := 4) (ty := 81) rfl _ _ w.heap.size 81 #[.int .u64 0, .int .i64 0, .slice none 0 0, .int .i64 0, .int .i64 3] (0, 0) _ rfl HBX.out Try.underlying81 rfl (by kernel_rfl)) rfl ?_
      obtain rfl := HF.out
      exact ⟨none, 0, rfl, Nat.le_refl _, .inr rfl, HLX.out⟩
    · obtain ⟨m, rfl⟩ := Int.eq_ofNat_of_zero_le (show 0 ≤ n by omega)
      have HF : Aside0 (G = (0, 0, l0.take m, (m : Int), 0)) := ⟨by have h := HG.out; rw [if_neg h0, if_neg h1] at h; exact h.symm⟩
      have hml : m ≤ l0.length := by omega
      have HML := Aside0.mk hml
      clear HG h0
      have HBX := Aside0.mk (show Box5 (w.alloc (.cells #[.int .u64 0, .int .i64 0, .slice A0 m c0, .int .i64 (m : Int), .int .i64 0] 81)) w.heap.size 0 0 (.slice A0 m c0) (m : Int) 0 from blk_new w _)
      have HLX := Aside0.mk (below_alloc (Below.refl w.heap.size w) (.cells #[.int .u64 0, .int .i64 0, .slice A0 m c0, .int .i64 (m : Int), .int .i64 0] 81))
      have HCC := Aside0.mk (Kd.C_take (Kd.C_alloc HR.out (.cells #[.int .u64 0, .int .i64 0, .slice A0 m c0, .int .i64 (m : Int), .int .i64 0] 81)) hml)
      go_enter Try.func116, Try.ntmps116
      go_wp2
      refine bodyPost_ret (results_cell_row (fn := Try.f116) (p := 4) (ty := 81) rfl _ _ w.heap.size 81 #[.int .u64 0, .int .i64 0, .slice A0 m c0, .int .i64 (m : Int), .int .i64 0] (0, 0) _ rfl HBX.out Try.underlying81 rfl (by kernel_rfl)) rfl ?_
      obtain rfl := HF.out
      have hlen : (l0.take m).length = m := by rw [List.length_take]; have := HML.out; omega
      refine ⟨A0, c0, by rw [hlen], by rw [hlen]; have := HML.out; have := HC.out; omega, .inl rfl, HLX.out⟩
theorem C_empty (W : World) (A : Option Addr) : Kd.C (Kd.int .u8) W A ([] : List Int).length [] := ⟨rfl, by simp, fun h => absurd h (Nat.lt_irrefl 0)⟩
/-- What law03.read tells. -/
def readF (l : List Int) (p : S49) : Int × Int × List Int × Int × Int :=
  if p.f0 = 1 then rdUint l p.f1 else if p.f0 = 2 then rdInt l else if p.f0 = 3 then fin3 l (numGo 10 0 0 l) else if p.f0 = 4 then rdRaw l p.f1 else (0, 0, [], 0, 0)
def RD (fn : Nat) (args : Array Value) (W : World) (A0 : Option Addr) (T : Int × Int × List Int × Int × Int) : Prop :=
  Calls Try.prog fn args W fun e w' => ∃ A c, e = .returned (.agg #[.int .u64 T.1, .int .i64 T.2.1, .slice A T.2.2.1.length c, .int .i64 T.2.2.2.1, .int .i64 T.2.2.2.2]) ∧ T.2.2.1.length ≤ c ∧ (A = A0 ∨ T.2.2.1 = []) ∧ Below W.heap.size W w'
theorem rdUint_raw (l : List Int) (s : Int) : (rdUint l s).2.2.1 = [] := by unfold rdUint; split; rfl; split <;> rfl
theorem fin3_raw (l : List Int) (r : Int × (List Int × Int)) : (fin3 l r).2.2.1 = [] := by unfold fin3; split <;> rfl
theorem rdInt_raw (l : List Int) : (rdInt l).2.2.1 = [] ∧ (rdInt l).1 = 0 := by unfold rdInt; split <;> exact ⟨rfl, rfl⟩
theorem RD.uint (A0 : Option Addr) (c0 : Nat) (l : List Int) (s : Int) (w : World) (hr : Kd.C (Kd.int .u8) w A0 l.length l) (hc : l.length ≤ c0) (hb : Byt l) : RD 106 #[.slice A0 l.length c0, .int .i64 s] w A0 (rdUint l s) := by
  refine (damperref03_ReadUint.calls 12 A0 c0 l s _ _ _ _ _ w hr hc (refReadUint l s hb 12 (by omega))).mono ?_
  rintro e w' ⟨v, rfl, hR, hbl⟩
  obtain ⟨A, c, rfl, hq, _⟩ := Kd.R_reads hR
  exact ⟨A, c, rfl, hq, .inr (rdUint_raw l s), hbl⟩
theorem RD.num (A0 : Option Addr) (c0 : Nat) (l : List Int) (w : World) (hr : Kd.C (Kd.int .u8) w A0 l.length l) (hc : l.length ≤ c0) (hb : Byt l) (hl : l.length ≤ 140737488355328) : RD 115 #[.slice A0 l.length c0] w A0 (fin3 l (numGo 10 0 0 l)) := by
  refine (damperref03_ReadNum.calls 21 A0 c0 l _ _ _ _ _ w hr hc (refReadNum l hb hl 21 (by omega))).mono ?_
  rintro e w' ⟨v, rfl, hR, hbl⟩
  obtain ⟨A, c, rfl, hq, _⟩ := Kd.R_reads hR
  exact ⟨A, c, rfl, hq, .inr (fin3_raw l _), hbl⟩
theorem RD.int (A0 : Option Addr) (c0 : Nat) (l : List Int) (w : World) (hr : Kd.C (Kd.int .u8) w A0 l.length l) (hc : l.length ≤ c0) (hb : Byt l) : RD 114 #[.slice A0 l.length c0] w A0 (rdInt l) := by
  refine (refReadInt_calls A0 c0 l w hr hc hb).mono ?_
  rintro e w' ⟨v, rfl, hR, hbl⟩
  obtain ⟨A, c, rfl, hq, _⟩ := Kd.R_reads hR
  exact ⟨A, c, by rw [(rdInt_raw l).1, (rdInt_raw l).2], by rw [(rdInt_raw l).1]; exact hq, .inr (rdInt_raw l).1, hbl⟩
set_option maxRecDepth 100000 in
set_option maxHeartbeats 4000000 in
theorem law03_read_calls (B : Option Addr) (m : Nat) (l : List Int) (p : S49) (A : Option Addr) (c : Nat) (w : World) (hr : Kd.C (Kd.int .u8) w B l.length l) (hm : l.length ≤ m) (hb : Byt l) (hl : l.length ≤ 140737488355328) :
    RD 61 #[.slice B l.length m, .agg #[.int .i64 p.f0, .int .i64 p.f1, .int .u64 p.f2, .int .i64 p.f3, .slice A p.f4.length c]] w B (readF l p) := by
  unfold RD
  obtain ⟨f0, f1, f2, f3, f4⟩ := p
  generalize hG : readF l ⟨f0, f1, f2, f3, f4⟩ = G
  unfold readF at hG
  dsimp only at *
  by_cases h1 : f0 = 1
  · rw [if_pos h1] at hG
    subst h1
    have hx : RD 106 #[.slice B l.length m, .int .i64 f1] ((w.alloc (.cells #[.int .i64 1, .int .i64 f1, .int .u64 f2, .int .i64 f3, .slice A f4.length c] 49)).alloc (.cells #[.int .u64 0, .int .i64 0, .slice none 0 0, .int .i64 0, .int .i64 0] 81)) B (rdUint l f1) := RD.uint B m l f1 _ (Kd.C_alloc (Kd.C_alloc hr _) _) hm hb
    rw [hG] at hx
    have HX := Aside0.mk hx
    have HB := Aside0.mk (show Box5 ((w.alloc (.cells #[.int .i64 1, .int .i64 f1, .int .u64 f2, .int .i64 f3, .slice A f4.length c] 49)).alloc (.cells #[.int .u64 0, .int .i64 0, .slice none 0 0, .int .i64 0, .int .i64 0] 81)) (w.heap.size + 1) 0 0 (.slice none 0 0) 0 0 from by
      have := blk_new (w.alloc (.cells #[.int .i64 1, .int .i64 f1, .int .u64 f2, .int .i64 f3, .slice A f4.length c] 49)) (.cells #[.int .u64 0, .int .i64 0, .slice none 0 0, .int .i64 0, .int .i64 0] 81)
      rw [World.size_alloc] at this
      exact this)
    have HL := Aside0.mk (below_alloc (below_alloc (Below.refl w.heap.size w) (.cells #[.int .i64 1, .int .i64 f1, .int .u64 f2, .int .i64 f3, .slice A f4.length c] 49)) (.cells #[.int .u64 0, .int .i64 0, .slice none 0 0, .int .i64 0, .int .i64 0] 81))
    clear hG hr hm hb hl hx
    go_enter Try.func61, Try.ntmps61
    go_wp2_with fail
    refine HX.out.mono ?_
    rintro e w1 ⟨X, x, rfl, hq, hX, hbl⟩
    obtain ⟨tn, ts, tr, tz, tf⟩ := G
    have HB1 : Aside0 (Box5 w1 (w.heap.size + 1) 0 0 (.slice none 0 0) 0 0) := ⟨(hbl.block _ (blk_lt HB.out)).trans HB.out⟩
    have HL1 := Aside0.mk (Below.trans HL.out (Below.mono hbl HL.out.size))
    have HB2 := Aside0.mk (HB1.out.set5 tn ts tz tf (.slice X tr.length x))
    have HL2 := Aside0.mk (below_far5 HL1.out (b := w.heap.size + 1) (by omega) tn ts tz tf (.slice X tr.length x))
    have HQ := Aside0.mk hq
    have HXX := Aside0.mk hX
    clear hbl hq hX HX HB HL
    obtain ⟨d0, d1, d2, d3, d4⟩ := HB1.out.cells
    have y0 := blk_frozen HB1.out 0
    have y1 := blk_frozen HB1.out 1
    have y2 := blk_frozen HB1.out 2
    have y3 := blk_frozen HB1.out 3
    have y4 := blk_frozen HB1.out 4
    go_wp2
    refine bodyPost_ret (results_cell_row (fn := Try.f61) (p := 4) (ty := 81) rfl _ _ (w.heap.size + 1) 81 #[.int .u64 tn, .int .i64 ts, .slice X tr.length x, .int .i64 tz, .int .i64 tf] (0, 0) _ rfl HB2.out Try.underlying81 rfl (by kernel_rfl)) rfl ?_
    exact ⟨X, x, rfl, HQ.out, HXX.out, HL2.out⟩
  · by_cases h2 : f0 = 2
    · rw [if_neg h1, if_pos h2] at hG
      clear h1
      subst h2
      have hx : RD 114 #[.slice B l.length m] ((w.alloc (.cells #[.int .i64 2, .int .i64 f1, .int .u64 f2, .int .i64 f3, .slice A f4.length c] 49)).alloc (.cells #[.int .u64 0, .int .i64 0, .slice none 0 0, .int .i64 0, .int .i64 0] 81)) B (rdInt l) := RD.int B m l _ (Kd.C_alloc (Kd.C_alloc hr _) _) hm hb
      rw [hG] at hx
      have HX := Aside0.mk hx
      have HB := Aside0.mk (show Box5 ((w.alloc (.cells #[.int .i64 2, .int .i64 f1, .int .u64 f2, .int .i64 f3, .slice A f4.length c] 49)).alloc (.cells #[.int .u64 0, .int .i64 0, .slice none 0 0, .int .i64 0, .int .i64 0] 81)) (w.heap.size + 1) 0 0 (.slice none 0 0) 0 0 from by
        have := blk_new (w.alloc (.cells #[.int .i64 2, .int .i64 f1, .int .u64 f2, .int .i64 f3, .slice A f4.length c] 49)) (.cells #[.int .u64 0, .int .i64 0, .slice none 0 0, .int .i64 0, .int .i64 0] 81)
        rw [World.size_alloc] at this
        exact this)
      have HL := Aside0.mk (below_alloc (below_alloc (Below.refl w.heap.size w) (.cells #[.int .i64 2, .int .i64 f1, .int .u64 f2, .int .i64 f3, .slice A f4.length c] 49)) (.cells #[.int .u64 0, .int .i64 0, .slice none 0 0, .int .i64 0, .int .i64 0] 81))
      clear hG hr hm hb hl hx
      go_enter Try.func61, Try.ntmps61
      go_wp2_with fail
      refine HX.out.mono ?_
      rintro e w1 ⟨X, x, rfl, hq, hX, hbl⟩
      obtain ⟨tn, ts, tr, tz, tf⟩ := G
      have HB1 : Aside0 (Box5 w1 (w.heap.size + 1) 0 0 (.slice none 0 0) 0 0) := ⟨(hbl.block _ (blk_lt HB.out)).trans HB.out⟩
      have HL1 := Aside0.mk (Below.trans HL.out (Below.mono hbl HL.out.size))
      have HB2 := Aside0.mk (HB1.out.set5 tn ts tz tf (.slice X tr.length x))
      have HL2 := Aside0.mk (below_far5 HL1.out (b := w.heap.size + 1) (by omega) tn ts tz tf (.slice X tr.length x))
      have HQ := Aside0.mk hq
      have HXX := Aside0.mk hX
      clear hbl hq hX HX HB HL
      obtain ⟨d0, d1, d2, d3, d4⟩ := HB1.out.cells
      have y0 := blk_frozen HB1.out 0
      have y1 := blk_frozen HB1.out 1
      have y2 := blk_frozen HB1.out 2
      have y3 := blk_frozen HB1.out 3
      have y4 := blk_frozen HB1.out 4
      go_wp2
      refine bodyPost_ret (results_cell_row (fn := Try.f61) (p := 4) (ty := 81) rfl _ _ (w.heap.size + 1) 81 #[.int .u64 tn, .int .i64 ts, .slice X tr.length x, .int .i64 tz, .int .i64 tf] (0, 0) _ rfl HB2.out Try.underlying81 rfl (by kernel_rfl)) rfl ?_
      exact ⟨X, x, rfl, HQ.out, HXX.out, HL2.out⟩
    · by_cases h3 : f0 = 3
      · rw [if_neg h1, if_neg h2, if_pos h3] at hG
        clear h1 h2
        subst h3
        have hx : RD 115 #[.slice B l.length m] ((w.alloc (.cells #[.int .i64 3, .int .i64 f1, .int .u64 f2, .int .i64 f3, .slice A f4.length c] 49)).alloc (.cells #[.int .u64 0, .int .i64 0, .slice none 0 0, .int .i64 0, .int .i64 0] 81)) B (fin3 l (numGo 10 0 0 l)) := RD.num B m l _ (Kd.C_alloc (Kd.C_alloc hr _) _) hm hb hl
        rw [hG] at hx
        have HX := Aside0.mk hx
        have HB := Aside0.mk (show Box5 ((w.alloc (.cells #[.int .i64 3, .int .i64 f1, .int .u64 f2, .int .i64 f3, .slice A f4.length c] 49)).alloc (.cells #[.int .u64 0, .int .i64 0, .slice none 0 0, .int .i64 0, .int .i64 0] 81)) (w.heap.size + 1) 0 0 (.slice none 0 0) 0 0 from by
          have := blk_new (w.alloc (.cells #[.int .i64 3, .int .i64 f1, .int .u64 f2, .int .i64 f3, .slice A f4.length c] 49)) (.cells #[.int .u64 0, .int .i64 0, .slice none 0 0, .int .i64 0, .int .i64 0] 81)
          rw [World.size_alloc] at this
          exact this)
        have HL := Aside0.mk (below_alloc (below_alloc (Below.refl w.heap.size w) (.cells #[.int .i64 3, .int .i64 f1, .int .u64 f2, .int .i64 f3, .slice A f4.length c] 49)) (.cells #[.int .u64 0, .int .i64 0, .slice none 0 0, .int .i64 0, .int .i64 0] 81))
        clear hG hr hm hb hl hx
        go_enter Try.func61, Try.ntmps61
        go_wp2_with fail
        refine HX.out.mono ?_
        rintro e w1 ⟨X, x, rfl, hq, hX, hbl⟩
        obtain ⟨tn, ts, tr, tz, tf⟩ := G
        have HB1 : Aside0 (Box5 w1 (w.heap.size + 1) 0 0 (.slice none 0 0) 0 0) := ⟨(hbl.block _ (blk_lt HB.out)).trans HB.out⟩
        have HL1 := Aside0.mk (Below.trans HL.out (Below.mono hbl HL.out.size))
        have HB2 := Aside0.mk (HB1.out.set5 tn ts tz tf (.slice X tr.length x))
        have HL2 := Aside0.mk (below_far5 HL1.out (b := w.heap.size + 1) (by omega) tn ts tz tf (.slice X tr.length x))
        have HQ := Aside0.mk hq
        have HXX := Aside0.mk hX
        clear hbl hq hX HX HB HL
        obtain ⟨d0, d1, d2, d3, d4⟩ := HB1.out.cells
        have y0 := blk_frozen HB1.out 0
        have y1 := blk_frozen HB1.out 1
        have y2 := blk_frozen HB1.out 2
        have y3 := blk_frozen HB1.out 3
        have y4 := blk_frozen HB1.out 4
        go_wp2
        refine bodyPost_ret (results_cell_row (fn := Try.f61) (p := 4) (ty := 81) rfl _ _ (w.heap.size + 1) 81 #[.int .u64 tn, .int .i64 ts, .slice X tr.length x, .int .i64 tz, .int .i64 tf] (0, 0) _ rfl HB2.out Try.underlying81 rfl (by kernel_rfl)) rfl ?_
        exact ⟨X, x, rfl, HQ.out, HXX.out, HL2.out⟩
      · by_cases h4 : f0 = 4
        · rw [if_neg h1, if_neg h2, if_neg h3, if_pos h4] at hG
          clear h1 h2 h3
          subst h4
          have hx : RD 116 #[.slice B l.length m, .int .i64 f1] ((w.alloc (.cells #[.int .i64 4, .int .i64 f1, .int .u64 f2, .int .i64 f3, .slice A f4.length c] 49)).alloc (.cells #[.int .u64 0, .int .i64 0, .slice none 0 0, .int .i64 0, .int .i64 0] 81)) B (rdRaw l f1) := refReadRaw_calls B m l f1 _ (Kd.C_alloc (Kd.C_alloc hr _) _) hm
          rw [hG] at hx
          have HX := Aside0.mk hx
          have HB := Aside0.mk (show Box5 ((w.alloc (.cells #[.int .i64 4, .int .i64 f1, .int .u64 f2, .int .i64 f3, .slice A f4.length c] 49)).alloc (.cells #[.int .u64 0, .int .i64 0, .slice none 0 0, .int .i64 0, .int .i64 0] 81)) (w.heap.size + 1) 0 0 (.slice none 0 0) 0 0 from by
            have := blk_new (w.alloc (.cells #[.int .i64 4, .int .i64 f1, .int .u64 f2, .int .i64 f3, .slice A f4.length c] 49)) (.cells #[.int .u64 0, .int .i64 0, .slice none 0 0, .int .i64 0, .int .i64 0] 81)
            rw [World.size_alloc] at this
            exact this)
          have HL := Aside0.mk (below_alloc (below_alloc (Below.refl w.heap.size w) (.cells #[.int .i64 4, .int .i64 f1, .int .u64 f2, .int .i64 f3, .slice A f4.length c] 49)) (.cells #[.int .u64 0, .int .i64 0, .slice none 0 0, .int .i64 0, .int .i64 0] 81))
          clear hG hr hm hb hl hx
          go_enter Try.func61, Try.ntmps61
          go_wp2_with fail
          refine HX.out.mono ?_
          rintro e w1 ⟨X, x, rfl, hq, hX, hbl⟩
          obtain ⟨tn, ts, tr, tz, tf⟩ := G
          have HB1 : Aside0 (Box5 w1 (w.heap.size + 1) 0 0 (.slice none 0 0) 0 0) := ⟨(hbl.block _ (blk_lt HB.out)).trans HB.out⟩
          have HL1 := Aside0.mk (Below.trans HL.out (Below.mono hbl HL.out.size))
          have HB2 := Aside0.mk (HB1.out.set5 tn ts tz tf (.slice X tr.length x))
          have HL2 := Aside0.mk (below_far5 HL1.out (b := w.heap.size + 1) (by omega) tn ts tz tf (.slice X tr.length x))
          have HQ := Aside0.mk hq
          have HXX := Aside0.mk hX
          clear hbl hq hX HX HB HL
          obtain ⟨d0, d1, d2, d3, d4⟩ := HB1.out.cells
          have y0 := blk_frozen HB1.out 0
          have y1 := blk_frozen HB1.out 1
          have y2 := blk_frozen HB1.out 2
          have y3 := blk_frozen HB1.out 3
          have y4 := blk_frozen HB1.out 4
          go_wp2
          refine bodyPost_ret (results_cell_row (fn := Try.f61) (p := 4) (ty := 81) rfl _ _ (w.heap.size + 1) 81 #[.int .u64 tn, .int .i64 ts, .slice X tr.length x, .int .i64 tz, .int .i64 tf] (0, 0) _ rfl HB2.out Try.underlying81 rfl (by kernel_rfl)) rfl ?_
          exact ⟨X, x, rfl, HQ.out, HXX.out, HL2.out⟩
        · rw [if_neg h1, if_neg h2, if_neg h3, if_neg h4] at hG
          subst hG
          have HB := Aside0.mk (show Box5 ((w.alloc (.cells #[.int .i64 f0, .int .i64 f1, .int .u64 f2, .int .i64 f3, .slice A f4.length c] 49)).alloc (.cells #[.int .u64 0, .int .i64 0, .slice none 0 0, .int .i64 0, .int .i64 0] 81)) (w.heap.size + 1) 0 0 (.slice none 0 0) 0 0 from by
            have := blk_new (w.alloc (.cells #[.int .i64 f0, .int .i64 f1, .int .u64 f2, .int .i64 f3, .slice A f4.length c] 49)) (.cells #[.int .u64 0, .int .i64 0, .slice none 0 0, .int .i64 0, .int .i64 0] 81)
            rw [World.size_alloc] at this
            exact this)
          have HL := Aside0.mk (below_alloc (below_alloc (Below.refl w.heap.size w) (.cells #[.int .i64 f0, .int .i64 f1, .int .u64 f2, .int .i64 f3, .slice A f4.length c] 49)) (.cells #[.int .u64 0, .int .i64 0, .slice none 0 0, .int .i64 0, .int .i64 0] 81))
          clear hr hm hb hl
          go_enter Try.func61, Try.ntmps61
          go_wp2
          refine bodyPost_ret (results_cell_row (fn := Try.f61) (p := 4) (ty := 81) rfl _ _ (w.heap.size + 1) 81 #[.int .u64 0, .int .i64 0, .slice none 0 0, .int .i64 0, .int .i64 0] (0, 0) _ rfl HB.out Try.underlying81 rfl (by kernel_rfl)) rfl ?_
          first | exact ⟨none, 0, rfl, Nat.le_refl _, .inr rfl, HL.out⟩ | exact ⟨none, 0, rfl, Nat.le_refl _, .inr trivial, HL.out⟩ | exact ⟨none, 0, by simp, by simp, by simp, HL.out⟩
end Go.Proofs.Ytalpemoodollpaa.P
/- The walk of OctetsApart. -/
namespace Go.Proofs.Ytalpemoodollpaa.P
open Go.RowKit Go.Proofs.YtalpemoodollpaaW.PrintWords Go.Proofs.YtalpemoodollpaaW.PrintLast Go.Proofs.YtalpemoodollpaaW.PrintMore
set_option linter.unusedVariables false
set_option linter.unusedSimpArgs false

/-- What stays told of a slice that is read while a writer is written. -/
theorem WPost.C {w w1 : World} {g : Nat} {row : Option Nat} {ys : List Int} (h : WPost w g row ys w1) {A : Option Addr} {xs : List Int} (hc : Kd.C (Kd.int .u8) w A xs.length xs) (hg : ∀ k, A.map (·.block) = some k → k ≠ g ∧ row ≠ some k) : Kd.C (Kd.int .u8) w1 A xs.length xs := by
  obtain ⟨_, _, _, hf⟩ := h
  exact hf.C hc (fun k hk hS => hS.elim (hg k hk).1 (hg k hk).2)
theorem WPost.ws_other {w w1 : World} {g g' : Nat} {row row' : Option Nat} {xs ys : List Int} (h : WPost w g row ys w1) (hs : WS w g' row' xs) (hne : g' ≠ g) (h1 : row ≠ some g') (h2 : ∀ k, row' = some k → k ≠ g ∧ row ≠ some k) : WS w1 g' row' xs := by
  obtain ⟨_, _, _, hf⟩ := h
  exact hs.fr hf (fun hS => hS.elim hne h1) (fun k hk hS => hS.elim (h2 k hk).1 (h2 k hk).2)

set_option maxRecDepth 100000 in
set_option maxHeartbeats 2000000 in
theorem octetsApart_calls (a b c d : Int) (w : World) (ha0 : 0 ≤ a) (ha1 : a < 18446744073709551616) (hb0 : 0 ≤ b) (hb1 : b < 18446744073709551616)
    (hc0 : -9223372036854775808 ≤ c) (hc1 : c ≤ 9223372036854775807) (hd0 : -9223372036854775808 ≤ d) (hd1 : d ≤ 9223372036854775807) :
    Calls Try.prog 5 #[.int .u64 a, .int .u64 b, .int .i64 c, .int .i64 d] w fun e w' => e = .returned (.bool true) ∧ Below w.heap.size w w' := by
  have HA := Aside0.mk ha1
  have HB := Aside0.mk hb1
  have HC := Aside0.mk (And.intro hc0 hc1)
  have HD := Aside0.mk (And.intro hd0 hd1)
  clear ha1 hb1 hc0 hc1 hd0 hd1
  have HX := Aside0.mk (And.intro ha0 hb0)
  clear ha0 hb0
  have s1 := (((WS.new w).alloc (.cells #[.slice none 0 0] 39)).alloc (.cells #[.slice none 0 0] 39)).alloc (.cells #[.slice none 0 0] 39)
  have s2 := ((WS.new (w.alloc (.cells #[.slice none 0 0] 39))).alloc (.cells #[.slice none 0 0] 39)).alloc (.cells #[.slice none 0 0] 39)
  have s3 := (WS.new ((w.alloc (.cells #[.slice none 0 0] 39)).alloc (.cells #[.slice none 0 0] 39))).alloc (.cells #[.slice none 0 0] 39)
  have s4 := WS.new (((w.alloc (.cells #[.slice none 0 0] 39)).alloc (.cells #[.slice none 0 0] 39)).alloc (.cells #[.slice none 0 0] 39))
  simp only [World.size_alloc] at s2 s3 s4
  have b0 := below_alloc (below_alloc (below_alloc (below_alloc (Below.refl w.heap.size w) (.cells #[.slice none 0 0] 39)) (.cells #[.slice none 0 0] 39)) (.cells #[.slice none 0 0] 39)) (.cells #[.slice none 0 0] 39)
  have S1 := Aside0.mk s1
  have S2 := Aside0.mk s2
  have S3 := Aside0.mk s3
  have S4 := Aside0.mk s4
  have B0 := Aside0.mk b0
  clear s1 s2 s3 s4 b0
  go_enter Try.func5, Try.ntmps5
  go_wp2_with fail
  have hsz : w.heap.size + 4 = ((((w.alloc (.cells #[.slice none 0 0] 39)).alloc (.cells #[.slice none 0 0] 39)).alloc (.cells #[.slice none 0 0] 39)).alloc (.cells #[.slice none 0 0] 39)).heap.size := by simp
  have HZ := Aside0.mk hsz
  clear hsz
  generalize ((((w.alloc (.cells #[.slice none 0 0] 39)).alloc (.cells #[.slice none 0 0] 39)).alloc (.cells #[.slice none 0 0] 39)).alloc (.cells #[.slice none 0 0] 39)) = W0 at *
  -- u
  refine (octets_Writer_Num.calls w.heap.size none [] a W0 HX.out.1 S1.out (by have := numForm_ten a HA.out; simp; omega)).mono ?_
  rintro e W1 ⟨rfl, hp⟩
  obtain ⟨row1, hs1, hb1, hr1⟩ := WPost.below B0.out (Nat.le_refl _) (fun k hk => by cases hk) hp
  have s2 := hp.ws_other S2.out (by omega) (by simp) (by simp)
  have s3 := hp.ws_other S3.out (by omega) (by simp) (by simp)
  have s4 := hp.ws_other S4.out (by omega) (by simp) (by simp)
  have T1 := Aside0.mk hs1
  have T2 := Aside0.mk s2
  have T3 := Aside0.mk s3
  have T4 := Aside0.mk s4
  have B1 := Aside0.mk hb1
  have Z1 := Aside0.mk (Nat.le_trans (Nat.le_of_eq HZ.out) hp.choose_spec.2.2.size)
  clear hp hs1 hb1 hr1 s2 s3 s4 S1 S2 S3 S4 B0 HZ
  go_wp2_with fail
  refine (octets_Writer_Bytes.calls w.heap.size row1 _ W1 T1.out (by have := numForm_ten a HA.out; simp; omega)).mono ?_
  rintro e W2 ⟨v, rfl, hR, hB⟩
  obtain ⟨Ap, cp, rfl, hlp, hCp, hkp⟩ := R_open hR
  have S2 := Aside0.mk (T2.out.below hB)
  have S3 := Aside0.mk (T3.out.below hB)
  have S4 := Aside0.mk (T4.out.below hB)
  have B2 := Aside0.mk (below_then B1.out B1.out.size hB)
  have KP := Aside0.mk (fun k hk => Nat.le_trans Z1.out (hkp k hk).1)
  have CP := Aside0.mk hCp
  have Z2 := Aside0.mk (Nat.le_trans Z1.out hB.size)
  clear hR hB hCp hkp T1 T2 T3 T4 B1 Z1
  rw [List.nil_append] at CP
  -- v
  go_wp2_with fail
  refine (octets_Writer_Num.calls (w.heap.size + 1) none [] b W2 HX.out.2 S2.out (by have := numForm_ten b HB.out; simp; omega)).mono ?_
  rintro e W3 ⟨rfl, hp⟩
  obtain ⟨row2, hs1, hb1, hr1⟩ := WPost.below B2.out (Nat.le_succ _) (fun k hk => by cases hk) hp
  have s3 := hp.ws_other S3.out (by omega) (by simp) (by simp)
  have s4 := hp.ws_other S4.out (by omega) (by simp) (by simp)
  have cp1 := hp.C CP.out (fun k hk => ⟨by have := KP.out k hk; omega, by simp⟩)
  have T1 := Aside0.mk hs1
  have T3 := Aside0.mk s3
  have T4 := Aside0.mk s4
  have B3 := Aside0.mk hb1
  have CP3 := Aside0.mk cp1
  have Z3 := Aside0.mk (Nat.le_trans Z2.out hp.choose_spec.2.2.size)
  clear hp hs1 hb1 hr1 s3 s4 cp1 S2 S3 S4 B2 CP Z2
  go_wp2_with fail
  refine (octets_Writer_Bytes.calls (w.heap.size + 1) row2 _ W3 T1.out (by have := numForm_ten b HB.out; simp; omega)).mono ?_
  rintro e W4 ⟨v, rfl, hR, hB⟩
  obtain ⟨Aq, cq, rfl, hlq, hCq, hkq⟩ := R_open hR
  have S3 := Aside0.mk (T3.out.below hB)
  have S4 := Aside0.mk (T4.out.below hB)
  have B4 := Aside0.mk (below_then B3.out B3.out.size hB)
  have KQ := Aside0.mk (fun k hk => Nat.le_trans Z3.out (hkq k hk).1)
  have CQ := Aside0.mk hCq
  have CP := Aside0.mk (Kd.C_below CP3.out hB)
  have Z4 := Aside0.mk (Nat.le_trans Z3.out hB.size)
  clear hR hB hCq hkq T1 T3 T4 B3 CP3 Z3
  rw [List.nil_append] at CQ
  -- w
  go_wp2_with fail
  refine (octets_Writer_Int.calls (w.heap.size + 1 + 1) none [] c W4 HC.out.1 HC.out.2 S3.out (by simp)).mono ?_
  rintro e W5 ⟨rfl, hp⟩
  obtain ⟨row3, hs1, hb1, hr1⟩ := WPost.below B4.out (by omega) (fun k hk => by cases hk) hp
  have s4 := hp.ws_other S4.out (by omega) (by simp) (by simp)
  have cp1 := hp.C CP.out (fun k hk => ⟨by have := KP.out k hk; omega, by simp⟩)
  have cq1 := hp.C CQ.out (fun k hk => ⟨by have := KQ.out k hk; omega, by simp⟩)
  have T1 := Aside0.mk hs1
  have T4 := Aside0.mk s4
  have B5 := Aside0.mk hb1
  have CP5 := Aside0.mk cp1
  have CQ5 := Aside0.mk cq1
  have Z5 := Aside0.mk (Nat.le_trans Z4.out hp.choose_spec.2.2.size)
  clear hp hs1 hb1 hr1 s4 cp1 cq1 S3 S4 B4 CP CQ Z4
  go_wp2_with fail
  refine (octets_Writer_Bytes.calls (w.heap.size + 1 + 1) row3 _ W5 T1.out (by simp [intForm_length])).mono ?_
  rintro e W6 ⟨v, rfl, hR, hB⟩
  obtain ⟨As, cs, rfl, hls, hCs, hks⟩ := R_open hR
  have S4 := Aside0.mk (T4.out.below hB)
  have B6 := Aside0.mk (below_then B5.out B5.out.size hB)
  have KS := Aside0.mk (fun k hk => Nat.le_trans Z5.out (hks k hk).1)
  have CS := Aside0.mk hCs
  have CP := Aside0.mk (Kd.C_below CP5.out hB)
  have CQ := Aside0.mk (Kd.C_below CQ5.out hB)
  have Z6 := Aside0.mk (Nat.le_trans Z5.out hB.size)
  clear hR hB hCs hks T1 T4 B5 CP5 CQ5 Z5
  rw [List.nil_append] at CS
  -- x
  go_wp2_with fail
  refine (octets_Writer_Int.calls (w.heap.size + 1 + 1 + 1) none [] d W6 HD.out.1 HD.out.2 S4.out (by simp)).mono ?_
  rintro e W7 ⟨rfl, hp⟩
  obtain ⟨row4, hs1, hb1, hr1⟩ := WPost.below B6.out (by omega) (fun k hk => by cases hk) hp
  have cp1 := hp.C CP.out (fun k hk => ⟨by have := KP.out k hk; omega, by simp⟩)
  have cq1 := hp.C CQ.out (fun k hk => ⟨by have := KQ.out k hk; omega, by simp⟩)
  have cs1 := hp.C CS.out (fun k hk => ⟨by have := KS.out k hk; omega, by simp⟩)
  have T1 := Aside0.mk hs1
  have B7 := Aside0.mk hb1
  have CP7 := Aside0.mk cp1
  have CQ7 := Aside0.mk cq1
  have CS7 := Aside0.mk cs1
  clear hp hs1 hb1 hr1 cp1 cq1 cs1 S4 B6 CP CQ CS Z6 KP KQ KS
  go_wp2_with fail
  refine (octets_Writer_Bytes.calls (w.heap.size + 1 + 1 + 1) row4 _ W7 T1.out (by simp [intForm_length])).mono ?_
  rintro e W8 ⟨v, rfl, hR, hB⟩
  obtain ⟨At, ct, rfl, hlt, hCt, hkt⟩ := R_open hR
  have B8 := Aside0.mk (below_then B7.out B7.out.size hB)
  have CT := Aside0.mk hCt
  have CP := Aside0.mk (Kd.C_below CP7.out hB)
  have CQ := Aside0.mk (Kd.C_below CQ7.out hB)
  have CS := Aside0.mk (Kd.C_below CS7.out hB)
  clear hR hB hCt hkt T1 B7 CP7 CQ7 CS7
  rw [List.nil_append] at CT hlp hlq hls hlt
  simp only [List.nil_append]
  -- the tests
  have hbeg := begins_iff a.toNat b.toNat
  have YP := Aside0.mk (numForm_byt a.toNat)
  have YQ := Aside0.mk (numForm_byt b.toNat)
  have YS := Aside0.mk (intForm_byt c)
  have YT := Aside0.mk (intForm_byt d)
  have hab : a.toNat = b.toNat ↔ a = b := by have := HX.out; omega
  have hcd : intForm c = intForm d ↔ c = d := ⟨intForm_inj HC.out.1 HC.out.2 HD.out.1 HD.out.2, fun h => by rw [h]⟩
  have hlc : (intForm c).length = 8 := intForm_length c
  have hld : (intForm d).length = 8 := intForm_length d
  rw [hab] at hbeg
  have LP := Aside0.mk (numForm_ten a HA.out)
  have LQ := Aside0.mk (numForm_ten b HB.out)
  generalize numForm a.toNat = p at *
  generalize numForm b.toNat = q at *
  generalize intForm c = sc at *
  generalize intForm d = td at *
  have HBEG := Aside0.mk hbeg
  have HCD := Aside0.mk hcd
  have HLC := Aside0.mk hlc
  have HLD := Aside0.mk hld
  clear hbeg hcd hlc hld hab HA HB HC HD HX
  by_cases hle : p.length ≤ q.length
  · have lq := LQ.out
    have lp := LP.out
    go_wp2_with fail
    have hlq : (q.take p.length).length = p.length := by rw [List.length_take]; omega
    have hS := same_calls Ap cp p Aq cq (q.take p.length) W8 CP.out (by assumption) (by rw [hlq]; exact C_take CQ.out _ hle) (by rw [hlq]; omega) YP.out (YQ.out.take _)
    rw [hlq] at hS
    refine hS.mono ?_
    rintro e W9 ⟨rfl, hd⟩
    have B9 := Aside0.mk (below_then B8.out B8.out.size hd.below)
    have CS2 := Aside0.mk (Kd.C_below CS.out hd.below)
    have CT2 := Aside0.mk (Kd.C_below CT.out hd.below)
    have HLS := Aside0.mk hls
    have HLT := Aside0.mk hlt
    rw [show decide (p = q.take p.length) = (a == b) from by
      have h := HBEG.out
      rw [Nat.min_eq_left hle] at h
      rw [Bool.eq_iff_iff]
      simp only [decide_eq_true_eq, beq_iff_eq, ← h, hle, true_and]]
    clear hd hlq hS hls hlt
    go_wp2_with fail
    refine (same_calls As cs sc At ct td _ CS2.out HLS.out CT2.out HLT.out YS.out YT.out).mono ?_
    rintro e W10 ⟨rfl, hd⟩
    have B10 := Aside0.mk (below_then B9.out B9.out.size hd.below)
    rw [show decide (sc = td) = (c == d) from by rw [Bool.eq_iff_iff]; simp [HCD.out]]
    clear hd
    go_wp2_with fail
    refine (damperlaw03_alive.calls true W10 rfl).mono ?_
    rintro e W11 ⟨rfl, hd⟩
    have B11 := Aside0.mk (below_then B10.out B10.out.size hd)
    clear hd
    go_wp2
    go_ret
    exact ⟨rfl, B11.out⟩
  · have hnab : (a == b) = false := by
      have h := HBEG.out
      simp only [beq_eq_false_iff_ne]
      exact fun e => hle (h.2 e).1
    have hle' : q.length < p.length := by omega
    have B9 := B8
    have CS2 := CS
    have CT2 := CT
    have HLS := Aside0.mk hls
    have HLT := Aside0.mk hlt
    clear hls hlt
    go_wp2_with fail
    refine (same_calls As cs sc At ct td _ CS2.out HLS.out CT2.out HLT.out YS.out YT.out).mono ?_
    rintro e W10 ⟨rfl, hd⟩
    have B10 := Aside0.mk (below_then B9.out B9.out.size hd.below)
    rw [show decide (sc = td) = (c == d) from by rw [Bool.eq_iff_iff]; simp [HCD.out]]
    clear hd
    go_wp2_with fail
    refine (damperlaw03_alive.calls true W10 rfl).mono ?_
    rintro e W11 ⟨rfl, hd⟩
    have B11 := Aside0.mk (below_then B10.out B10.out.size hd)
    clear hd
    go_wp2
    go_ret
    exact ⟨rfl, B11.out⟩
end Go.Proofs.Ytalpemoodollpaa.P
-- Printed by hookprint.py (the session's own program, over the kit's print.py): checked by Lean like any text.
namespace Go.Proofs.Ytalpemoodollpaa.P
open Go.RowKit Go.Proofs.YtalpemoodollpaaW.PrintWords Go.Proofs.YtalpemoodollpaaW.PrintLast Go.Proofs.YtalpemoodollpaaW.PrintMore
attribute [local go_sem] max2_int min2_int max_two min_two max_three min_three max_four min_four   -- for this text's walks alone
set_option linter.unusedVariables false
set_option linter.unusedSimpArgs false

/-! ### damperlaw03_light: function 40 -/
def damperlaw03_light.l0 : Nat → List (S49) → Int → Option (Bool)
  | 0, _, _ => none
  | k + 1, x0, x3 => if x3 < (x0.length : Int) then (if 0 ≤ x3 then (if (((rd_T49 x0 x3).f4).length : Int) > 60 then (some false) else (damperlaw03_light.l0 k x0 (wrap64 (x3 + 1)))) else (none)) else (some true)
def damperlaw03_light.f (k : Nat) (l0 : List (S49)) : Option (Bool) := if (l0.length : Int) > 40 then (some false) else (damperlaw03_light.l0 k l0 0)
theorem damperlaw03_light.mono_l : ∀ k, (∀ y0 y1, LeO (damperlaw03_light.l0 k y0 y1) (damperlaw03_light.l0 (k + 1) y0 y1))
  | 0 => fun _ _ r h => by simp [damperlaw03_light.l0] at h
  | k + 1 => by
    have ih0 := damperlaw03_light.mono_l k
    · intro y0 y1
      unfold damperlaw03_light.l0
      repeat' first
      | (with_reducible exact ih0 _ _)
      | (with_reducible exact LeO.refl _)
      | (with_reducible exact LeO.none _)
      | (with_reducible refine LeO.ite ?_ ?_)
      | (with_reducible refine LeO.bind ?_ (fun _ => ?_))
      | exact ih0 _ _
      | exact LeO.none _
      | refine LeO.ite ?_ ?_
      | refine LeO.bind ?_ (fun _ => ?_)
theorem damperlaw03_light.mono : ∀ a0 k, LeO (damperlaw03_light.f k a0) (damperlaw03_light.f (k + 1) a0) := by
  intro a0 k
  have ih0 := damperlaw03_light.mono_l k
  unfold damperlaw03_light.f
  repeat' first
      | (with_reducible exact ih0 _ _)
      | (with_reducible exact LeO.refl _)
      | (with_reducible exact LeO.none _)
      | (with_reducible refine LeO.ite ?_ ?_)
      | (with_reducible refine LeO.bind ?_ (fun _ => ?_))
      | exact ih0 _ _
      | exact LeO.none _
      | refine LeO.ite ?_ ?_
      | refine LeO.bind ?_ (fun _ => ?_)
set_option maxHeartbeats 8000000 in
set_option maxRecDepth 100000 in
theorem damperlaw03_light.calls (k : Nat) (A0 : Option Addr) (c0 : Nat) (l0 : List (S49)) (r : Bool) (w : World) (hr0 : Kd.C k49 w A0 l0.length l0) (hc0 : l0.length ≤ c0) (h : damperlaw03_light.f k l0 = some r) :
    Calls Try.prog 40 #[.slice A0 l0.length c0] w fun e w' => e = .returned (.bool r) ∧ Drawn0 w w' := by
  have HR0 := Aside0.mk hr0
  have HC0 := Aside0.mk hc0
  clear hr0 hc0
  have H : (if (l0.length : Int) > 40 then (some false) else (damperlaw03_light.l0 k l0 0)) = some r := h
  clear h
  by_cases c2 : (l0.length : Int) > 40
  · rw [if_pos c2] at H
    have c2b0 : decide (40 < (l0.length : Int)) = true := decide_eq_true c2
    have c2b1 : decide (40 < l0.length) = true := decide_eq_true (by omega)
    clear c2
    obtain rfl := Option.some.inj H
    go_enter Try.func40, Try.ntmps40
    go_wp2
    go_ret
    exact ⟨by first | rfl | (simp; done) | (simp [*]; done), by repeat (first | exact Drawn0.refl _ | apply Drawn0.step)⟩
  · rw [if_neg c2] at H
    have c2b0 : decide (40 < (l0.length : Int)) = false := decide_eq_false c2
    have c2b1 : decide (40 < l0.length) = false := decide_eq_false (by omega)
    clear c2
    have H' := Aside0.mk H
    clear H
    go_enter Try.func40, Try.ntmps40
    go_wp2
    go_loopg [3] k (fun kq v3 w' => ∃ (x3_1 : Int), v3 = .int .i64 x3_1 ∧ Aside0 (damperlaw03_light.l0 kq l0 x3_1 = some r) ∧ Aside0 (kq ≤ k) ∧ Drawn0 w w')
    case atStart => exact ⟨(0), (by first | rfl | (simp; done) | (simp [*]; done)), H', ⟨Nat.le_refl _⟩, by repeat (first | exact Drawn0.refl _ | apply Drawn0.step)⟩
    case round =>
      clear H'
      try clear c2
      try clear c2b0
      try clear c2b1
      try clear p2
      obtain ⟨x3_1, rfl, HA, HK1, ⟨m1, rfl⟩⟩ := hrel
      cases gk with
      | zero => exact absurd HA.out (by simp [damperlaw03_light.l0])
      | succ k1 =>
        have H := HA.out
        clear HA
        simp only [damperlaw03_light.l0] at H
        by_cases c3 : x3_1 < (l0.length : Int)
        · rw [if_pos c3] at H
          have c3b0 : decide (x3_1 < (l0.length : Int)) = true := decide_eq_true c3
          clear c3
          by_cases c4 : 0 ≤ x3_1
          · rw [if_pos c4] at H
            have c4b0 : decide (0 ≤ x3_1) = true := decide_eq_true c4
            clear c4
            by_cases c5 : (((rd_T49 l0 x3_1).f4).length : Int) > 60
            · rw [if_pos c5] at H
              have c5b0 : decide (60 < (((rd_T49 l0 x3_1).f4).length : Int)) = true := decide_eq_true c5
              have c5b1 : decide (60 < ((rd_T49 l0 x3_1).f4).length) = true := decide_eq_true (by omega)
              clear c5
              obtain rfl := Option.some.inj H
              have p235 : 0 ≤ (x3_1 : Int) := of_decide_eq_true (by first | (with_reducible assumption) | assumption)
              have q235 : x3_1 < (l0.length : Int) := of_decide_eq_true (by first | (with_reducible assumption) | assumption)
              obtain ⟨ad235, A235_4, c235_4, e235, hx235_0, hx235_1, hx235_2, hx235_3, hx235_4, hl235_4, hi235_4⟩ := at_T49 HR0.out x3_1 p235 q235
              cases e235
              have HR235_4 := Aside0.mk hi235_4
              have HC235_4 := Aside0.mk hl235_4
              clear hi235_4 hl235_4
              replace p235 := eq_true p235
              replace q235 := eq_true q235
              go_wp2
              go_ret
              exact ⟨by first | rfl | (simp; done) | (simp [*]; done), by repeat (first | exact Drawn0.refl _ | apply Drawn0.step)⟩
            · rw [if_neg c5] at H
              have c5b0 : decide (60 < (((rd_T49 l0 x3_1).f4).length : Int)) = false := decide_eq_false c5
              have c5b1 : decide (60 < ((rd_T49 l0 x3_1).f4).length) = false := decide_eq_false (by omega)
              clear c5
              have H' := Aside0.mk H
              clear H
              have p235 : 0 ≤ (x3_1 : Int) := of_decide_eq_true (by first | (with_reducible assumption) | assumption)
              have q235 : x3_1 < (l0.length : Int) := of_decide_eq_true (by first | (with_reducible assumption) | assumption)
              obtain ⟨ad235, A235_4, c235_4, e235, hx235_0, hx235_1, hx235_2, hx235_3, hx235_4, hl235_4, hi235_4⟩ := at_T49 HR0.out x3_1 p235 q235
              cases e235
              have HR235_4 := Aside0.mk hi235_4
              have HC235_4 := Aside0.mk hl235_4
              clear hi235_4 hl235_4
              replace p235 := eq_true p235
              replace q235 := eq_true q235
              go_wp2
              go_roundg k1
              case measure => have := HK1.out; omega
              case rel => exact ⟨(wrap64 (x3_1 + 1)), (by first | rfl | (simp; done) | (simp [*]; done)), H', ⟨by have := HK1.out; omega⟩, by repeat (first | exact Drawn0.refl _ | apply Drawn0.step)⟩
          · rw [if_neg c4] at H
            exact absurd H (by simp)
        · rw [if_neg c3] at H
          have c3b0 : decide (x3_1 < (l0.length : Int)) = false := decide_eq_false c3
          clear c3
          obtain rfl := Option.some.inj H
          go_wp2
          go_ret
          exact ⟨by first | rfl | (simp; done) | (simp [*]; done), by repeat (first | exact Drawn0.refl _ | apply Drawn0.step)⟩

end Go.Proofs.Ytalpemoodollpaa.P
/- The walk of OctetsPuts. -/
namespace Go.Proofs.Ytalpemoodollpaa.P
open Go.RowKit Go.Proofs.YtalpemoodollpaaW.PrintWords Go.Proofs.YtalpemoodollpaaW.PrintLast Go.Proofs.YtalpemoodollpaaW.PrintMore
set_option linter.unusedVariables false
set_option linter.unusedSimpArgs false

theorem info39_ : (Try.prog.info? 39).isSome = true := by kernel_rfl
theorem info39 : ∃ j, Try.prog.info? 39 = some j := Option.isSome_iff_exists.1 info39_
theorem neq_ptr_same (w : World) (a : Addr) : (binOp .neq 40 (.pointer (some a)) (.pointer (some a))).run Try.prog w = .ok (.bool false) w := by
  obtain ⟨j, hj⟩ := info39
  have h : ∀ d : Nat, (Op.equalIn (d + 1) 40 (.pointer (some a)) (.pointer (some a))).run Try.prog w = .ok true w := fun d => by
    simp [Op.equalIn, run_underlying Try.underlying40, sizeOf, typeInfo, hj, run_sameAddr_same]
  simp only [binOp]
  simp [Op.equal, Op.maxDepth, h 9999]
theorem rdT49_eq (l : List S49) (i : Nat) (h : i < l.length) : rd_T49 l (i : Int) = l[i] := by
  simp [rd_T49, List.getD_eq_getElem?_getD, h]
theorem light_go (ps : List S49) (hl : ps.length ≤ 40) : ∀ (j i : Nat), i + j = ps.length →
    ∃ b, damperlaw03_light.l0 (j + 1) ps (i : Int) = some b ∧ (b = true → ∀ n (h : n < ps.length), i ≤ n → (ps[n]).f4.length ≤ 60) := by
  intro j
  induction j with
  | zero =>
    intro i hi
    unfold damperlaw03_light.l0
    rw [if_neg (by omega)]
    exact ⟨true, rfl, fun _ n h hn => by omega⟩
  | succ j ih =>
    intro i hi
    obtain ⟨b, hb, hall⟩ := ih (i + 1) (by omega)
    unfold damperlaw03_light.l0
    rw [if_pos (by omega), if_pos (by omega), rdT49_eq ps i (by omega)]
    by_cases h6 : ((ps[i]'(by omega)).f4.length : Int) > 60
    · rw [if_pos h6]
      exact ⟨false, rfl, fun h => by cases h⟩
    · rw [if_neg h6, show wrap64 ((i : Int) + 1) = ((i + 1 : Nat) : Int) by rw [wrap64_eq]; omega]
      refine ⟨b, hb, fun ht n hn hin => ?_⟩
      by_cases he : n = i
      · subst he; omega
      · exact hall ht n hn (by omega)
theorem light_f (ps : List S49) : ∃ b, damperlaw03_light.f 64 ps = some b ∧ (b = true → ps.length ≤ 40 ∧ ∀ n (h : n < ps.length), (ps[n]).f4.length ≤ 60) := by
  show ∃ b, damperlaw03_light.f 64 ps = some b ∧ _
  by_cases h : (ps.length : Int) > 40
  · refine ⟨false, ?_, fun h => by cases h⟩
    unfold damperlaw03_light.f
    rw [if_pos h]
  · obtain ⟨b, hb, hall⟩ := light_go ps (by omega) ps.length 0 (by omega)
    refine ⟨b, ?_, fun ht => ⟨by omega, fun n hn => hall ht n hn (by omega)⟩⟩
    have hup := up_ (f := fun k => damperlaw03_light.f k ps) (k := ps.length + 1) (r := b) (fun k => damperlaw03_light.mono ps k) (by
      show damperlaw03_light.f (ps.length + 1) ps = some b
      unfold damperlaw03_light.f
      rw [if_neg h]
      exact hb) 64 (by omega)
    exact hup
/-- A writer, and a list of bytes of one's own beside it. -/
structure PW (w W : World) (g : Nat) (want : Value) (xs ys : List Int) : Prop where
  ex : ∃ row, WS W g row xs ∧ (∀ k, row = some k → w.heap.size ≤ k) ∧ (∀ k, want.ownBlock = some k → k ≠ g ∧ row ≠ some k)
  own : W.ownsRow w.heap.size 5 1 want ys.length (nums .u8 ys)
  bel : Below w.heap.size w W
  hg : w.heap.size ≤ g
namespace PW
variable {w W W1 : World} {g : Nat} {want v1 : Value} {xs ys F : List Int}
theorem new (hB : Below w.heap.size w W) : PW w (W.alloc (.cells #[.slice none 0 0] 39)) W.heap.size (.slice none 0 0) [] [] :=
  ⟨⟨none, WS.new W, (fun k hk => by cases hk), (fun k hk => by simp [Value.ownBlock] at hk)⟩, own_nil _ _ _ _, below_alloc hB _, hB.size⟩
theorem below (h : PW w W g want xs ys) (hb : Below W.heap.size W W1) : PW w W1 g want xs ys := by
  obtain ⟨⟨row, hs, hr, hne⟩, ho, hB, hg⟩ := h
  exact ⟨⟨row, hs.below hb, hr, hne⟩, (Fr.of_below hb (fun _ => False)).own ho (fun _ _ h => h), below_then hB hB.size hb, hg⟩
theorem append (h : PW w W g want xs ys) (hown : W1.ownsRow w.heap.size 5 1 v1 (ys ++ F).length (nums .u8 (ys ++ F))) (hB : Below w.heap.size w W1) (hg : W.grownBy W1 want.ownBlock)
    (hat : v1.ownBlock = want.ownBlock ∨ ∃ b, v1.ownBlock = some b ∧ W.heap.size ≤ b) : PW w W1 g v1 xs (ys ++ F) := by
  obtain ⟨⟨row, hs, hr, hne⟩, ho, _, hgg⟩ := h
  have hf : Fr W W1 (fun k => want.ownBlock = some k) := (Fr.refl W _).grown hg (fun k _ hk => hk)
  have hlt := hs.lt
  have hrlt : ∀ k, row = some k → k < W.heap.size := fun k hk => by
    obtain ⟨v, hb2, hr2, ho2⟩ := hs
    exact own_lt ho2 k (by rw [hr2, hk])
  refine ⟨⟨row, hs.fr hf (fun hS => (hne g hS).1 rfl) (fun k hk hS => (hne k hS).2 hk), hr, fun k hk => ?_⟩, hown, hB, hgg⟩
  rcases hat with hat | ⟨b, hb, hbl⟩
  · rw [hat] at hk
    exact hne k hk
  · rw [hb] at hk
    injection hk with hk
    subst hk
    exact ⟨by omega, fun hrb => by have := hrlt b hrb; omega⟩
theorem post {row : Option Nat} (hs : WS W g row xs) (hr : ∀ k, row = some k → w.heap.size ≤ k) (hne : ∀ k, want.ownBlock = some k → k ≠ g ∧ row ≠ some k) (ho : W.ownsRow w.heap.size 5 1 want ys.length (nums .u8 ys))
    (hB : Below w.heap.size w W) (hg : w.heap.size ≤ g) {zs : List Int} (hp : WPost W g row zs W1) : PW w W1 g want zs ys := by
  obtain ⟨row', hs', hr', hf⟩ := hp
  refine ⟨⟨row', hs', fun k hk => ?_, fun k hk => ⟨(hne k hk).1, ?_⟩⟩, hf.own ho (fun k hk hS => hS.elim (hne k hk).1 (hne k hk).2), ?_, hg⟩
  · rcases hr' with rfl | ⟨b, rfl, hb⟩
    · exact hr k hk
    · injection hk with hk
      have := hB.size
      omega
  · rcases hr' with rfl | ⟨b, rfl, hb⟩
    · exact (hne k hk).2
    · intro e
      injection e with e
      have := own_lt ho k hk
      omega
  · exact Below.trans hB (hf.below hB.size (fun k hS => hS.elim (fun e => by omega) (fun e => hr k e)))
theorem put (h : PW w W g want xs ys) (p : S49) (A : Option Addr) (c : Nat) (hf : WF49 p) (hC : Kd.C (Kd.int .u8) W A p.f4.length p.f4) (hl : xs.length + p.f4.length + 100 ≤ 140737488355328) :
    Calls Try.prog 42 #[.pointer (some ⟨g, 0, none⟩), .agg #[.int .i64 p.f0, .int .i64 p.f1, .int .u64 p.f2, .int .i64 p.f3, .slice A p.f4.length c]] W fun e w' => e = .returned (.pointer (some ⟨g, 0, none⟩)) ∧ PW w w' g want (xs ++ partForm p) ys := by
  obtain ⟨⟨row, hs, hr, hne⟩, ho, hB, hg⟩ := h
  exact (law03_put_calls g row xs p A c W hs hf hC hl).mono fun e w' ⟨he, hp⟩ => ⟨he, post hs hr hne ho hB hg hp⟩
theorem bytes (h : PW w W g want xs ys) (hl : xs.length ≤ 140737488355328) :
    Calls Try.prog 37 #[.pointer (some ⟨g, 0, none⟩)] W fun e w' => ∃ A c, e = .returned (.slice A xs.length c) ∧ xs.length ≤ c ∧ Kd.C (Kd.int .u8) w' A xs.length xs ∧ Below W.heap.size W w' := by
  obtain ⟨⟨row, hs, hr, hne⟩, ho, hB, hg⟩ := h
  refine (octets_Writer_Bytes.calls g row xs W hs hl).mono ?_
  rintro e w' ⟨v, rfl, hR, hb⟩
  obtain ⟨A, c, rfl, hq, hC⟩ := Kd.R_reads hR
  exact ⟨A, c, rfl, hq, hC, hb⟩
theorem want_C (h : PW w W g want xs ys) : ∃ A c, want = .slice A ys.length c ∧ ys.length ≤ c ∧ Kd.C (Kd.int .u8) W A ys.length ys := by
  obtain ⟨A, c, e, hq, hR⟩ := own_reads_of_le (enc := Value.int .u8) (d := (0 : Int)) h.own
  exact ⟨A, c, e, hq, Kd.C_of_reads hR⟩
end PW
theorem partForm_le (p : S49) (hf : WF49 p) (h : p.f4.length ≤ 60) : (partForm p).length ≤ 70 := by
  unfold partForm
  have := numForm_ten p.f2 hf.n.2
  split
  · split
    · simp
    · rw [uintForm_length]; omega
  · split
    · rw [intForm_length]; omega
    · split
      · omega
      · split <;> simp <;> omega
/-- The cells of an element, in a world that has kept what was. -/
theorem at_part {w W : World} {ad : Addr} {ps : List S49} {p : S49} {n : Nat} (h : Kd.C k49 w (some ad) ps.length ps) (hb : Below w.heap.size w W) (hlt : n < ps.length) (hp : ps[n] = p) :
    ∃ A4 c4, W.cell? (ad.add (n * 5)) = some (.int .i64 p.f0) ∧ W.cell? ⟨(ad.add (n * 5)).block, (ad.add (n * 5)).off + 1, none⟩ = some (.int .i64 p.f1) ∧ W.cell? ⟨(ad.add (n * 5)).block, (ad.add (n * 5)).off + 2, none⟩ = some (.int .u64 p.f2) ∧
      W.cell? ⟨(ad.add (n * 5)).block, (ad.add (n * 5)).off + 3, none⟩ = some (.int .i64 p.f3) ∧ W.cell? ⟨(ad.add (n * 5)).block, (ad.add (n * 5)).off + 4, none⟩ = some (.slice A4 p.f4.length c4) ∧ p.f4.length ≤ c4 ∧ Kd.C (Kd.int .u8) W A4 p.f4.length p.f4 := by
  obtain ⟨ad', A4, c4, hA0, e0, e1, e2, e3, e4, hl4, hC4⟩ := at_T49 (Kd.C_below h hb) (n : Int) (by omega) (by omega)
  injection hA0 with hA0
  subst hA0
  rw [rdT49_eq ps n hlt, hp] at e0 e1 e2 e3 e4 hl4 hC4
  rw [Int.toNat_natCast] at e0 e1 e2 e3 e4
  exact ⟨A4, c4, e0, e1, e2, e3, e4, hl4, hC4⟩
set_option maxRecDepth 100000 in
set_option maxHeartbeats 4000000 in
theorem octetsPuts_calls (A0 : Option Addr) (c0 : Nat) (ps : List S49) (w : World) (hr0 : Kd.C k49 w A0 ps.length ps) (hc0 : ps.length ≤ c0) (hwf : ∀ p ∈ ps, WF49 p) :
    Calls Try.prog 6 #[.slice A0 ps.length c0] w fun e w' => e = .returned (.bool true) ∧ Below w.heap.size w w' := by
  obtain ⟨b, hb, hlight⟩ := light_f ps
  have HR := Aside0.mk hr0
  have HC0 := Aside0.mk hc0
  have HB := Aside0.mk hb
  clear hr0 hc0 hb
  go_enter Try.func6, Try.ntmps6
  go_wp2_with fail
  refine (damperlaw03_light.calls 64 A0 c0 ps b w HR.out HC0.out HB.out).mono ?_
  rintro e w1 ⟨rfl, hd⟩
  have B1 := Aside0.mk hd.below
  have HR1 := Aside0.mk (Kd.C_below HR.out hd.below)
  clear hd
  cases b with
  | false =>
    go_wp2_with fail
    refine (damperlaw03_alive.calls true w1 rfl).mono ?_
    rintro e w2 ⟨rfl, hd⟩
    have B2 := Aside0.mk (Below.trans B1.out (Below.mono hd B1.out.size))
    clear hd
    go_wp2
    go_ret
    exact ⟨rfl, B2.out⟩
  | true =>
    obtain ⟨hlen, hraw⟩ := hlight rfl
    have HRAW := Aside0.mk hraw
    clear hlight hraw
    go_wp2_with fail
    have P0 := Aside0.mk (PW.new B1.out)
    have HC := Aside0.mk HR.out
    clear HB HR1 HR B1
    go_loopw [5, 6] (fun u5 u6 wr => ∃ (n : Nat) (xs : List Int), u6 = .int .i64 (n : Int) ∧ n ≤ ps.length ∧ Aside0 (xs.length ≤ n * 70) ∧ Aside0 (PW w wr w1.heap.size u5 xs xs)) (fun _ u6 _ => (ps.length - intOf u6).toNat)
    case atStart => exact ⟨0, [], rfl, by omega, ⟨by simp⟩, P0⟩
    case round =>
      obtain ⟨n, xs, rfl, hn, HXL, HP⟩ := hrel
      by_cases hlt : n < ps.length
      · obtain ⟨ad, hA0⟩ : ∃ ad, A0 = some ad := by obtain ⟨ad, e, _⟩ := HC.out.2.2 (by omega); exact ⟨ad, e⟩
        subst hA0
        have hraw := HRAW.out n hlt
        have hpf := hwf ps[n] (List.getElem_mem hlt)
        have hat := fun W hb => at_part (W := W) (p := ps[n]) HC.out hb hlt rfl
        generalize ps[n] = p at *
        have HAT := Aside0.mk hat
        have HPF := Aside0.mk hpf
        have HFL := Aside0.mk (partForm_le p hpf hraw)
        have HRW := Aside0.mk hraw
        clear hat hpf hraw
        obtain ⟨A4, c4, e0, e1, e2, e3, e4, hl4, hC4⟩ := HAT.out wr HP.out.bel
        have HQ4 := Aside0.mk hl4
        have HC4 := Aside0.mk hC4
        clear hl4 hC4
        go_wp2_with fail
        refine (law03_form_calls p A4 c4 wr HPF.out HQ4.out HC4.out).mono ?_
        rintro e w2 ⟨B2, m2, rfl, hq, hC2, hb⟩
        have HP2 := Aside0.mk (HP.out.below hb)
        have HF2 := Aside0.mk (Kd.reads_of_C (d := (0 : Int)) hC2)
        have hlen2 : (xs.length + (partForm p).length) * 1 ≤ 140737488355328 := by have := HFL.out; have := HXL.out; omega
        have HL2 := Aside0.mk hlen2
        clear hq hC2 hb HQ4 HC4 e0 e1 e2 e3 e4 HP hlen2
        go_wp2_with (at_builtin; refine print_append_row (w0 := w) w.heap.size rfl (.tmp 17) (.tmp 22) 30 5 .u8 1 rfl Try.underlying30 info5 (by decide) u5 xs (partForm p) B2 (partForm p).length m2 rfl rfl HP2.out.own HF2.out HP2.out.bel HP2.out.bel.size HL2.out ?_; intro v3 w3 hown hb hg hat; have HP3 := Aside0.mk (HP2.out.append hown hb hg hat); clear hown hb hg hat HP2 HF2; obtain ⟨A4, c4, e0, e1, e2, e3, e4, hl4, hC4⟩ := HAT.out w3 HP3.out.bel; have HQ4 := Aside0.mk hl4; have HC4 := Aside0.mk hC4; clear hl4 hC4)
        refine (HP3.out.put p A4 c4 HPF.out HC4.out (by have := HFL.out; have := HXL.out; have := HRW.out; omega)).mono ?_
        rintro e w4 ⟨rfl, hp4⟩
        have HP4 := Aside0.mk hp4
        clear hp4 HP3 HQ4 HC4 e0 e1 e2 e3 e4
        have kp := fun w => neq_ptr_same w ⟨w1.heap.size, 0, none⟩
        obtain ⟨A5, c5, e0, e1, e2, e3, e4, hl4, hC4⟩ := HAT.out w4 HP4.out.bel
        clear hl4 hC4
        go_wp2_with fail
        refine (law03_put_nil p.f0 p.f1 p.f2 p.f3 p.f4.length c5 A5 w4).mono ?_
        rintro e w5 ⟨rfl, hb⟩
        have HP5 := Aside0.mk (HP4.out.below hb)
        clear hb HP4 e0 e1 e2 e3 e4
        have HXF : Aside0 ((xs ++ partForm p).length ≤ (n + 1) * 70) := ⟨by have := HFL.out; have := HXL.out; rw [List.length_append]; omega⟩
        generalize xs ++ partForm p = ys at *
        go_wp2_with fail
        refine (HP5.out.bytes (by have := HXF.out; omega)).mono ?_
        rintro e w6 ⟨B6, m6, rfl, hq6, hC6, hb⟩
        have HP6 := Aside0.mk (HP5.out.below hb)
        obtain ⟨B7, m7, hv, hq7, hC7⟩ := HP6.out.want_C
        subst hv
        have HQ6 := Aside0.mk hq6
        have HQ7 := Aside0.mk hq7
        have HC6 := Aside0.mk hC6
        have HC7 := Aside0.mk hC7
        clear hb HP5 hq6 hC6 hq7 hC7
        go_wp2_with fail
        refine (damperref03_Same.calls B6 m6 ys B7 m7 ys true w6 HC6.out HQ6.out HC7.out HQ7.out (same_of_eq ys)).mono ?_
        rintro e w7 ⟨rfl, hd⟩
        have HP7 := Aside0.mk (HP6.out.below hd.below)
        clear hd HP6 HC6 HC7 HQ6 HQ7
        go_wp2
        go_roundw
        case rel => exact ⟨n + 1, ys, rfl, by omega, HXF, HP7⟩
        case measure => simp [intOf]; omega
      · have hB := HP.out.bel
        have HB := Aside0.mk hB
        clear hB HP
        go_wp2_with fail
        refine (octets_Writer_Bytes.nil wr).mono ?_
        rintro e w2 ⟨rfl, rfl⟩
        go_wp2_with fail
        refine (damperlaw03_alive.calls true wr rfl).mono ?_
        rintro e w3 ⟨rfl, hd⟩
        have B3 := Aside0.mk (Below.trans HB.out (Below.mono hd HB.out.size))
        clear hd
        go_wp2
        go_ret
        exact ⟨rfl, B3.out⟩
end Go.Proofs.Ytalpemoodollpaa.P
/- What is got is what the document reads. -/
namespace Go.Proofs.Ytalpemoodollpaa.P
open Go.RowKit Go.Proofs.YtalpemoodollpaaW.PrintWords Go.Proofs.YtalpemoodollpaaW.PrintLast Go.Proofs.YtalpemoodollpaaW.PrintMore
set_option linter.unusedVariables false
set_option linter.unusedSimpArgs false
theorem rTake_0 (l : List Int) (n : Nat) : rTake (l, 0) n = if l.length < n then ([], false, (l, 3)) else (l.take n, true, (l.drop n, 0)) := by
  unfold rTake
  rw [if_neg (by simp)]
theorem rTake_f (l : List Int) (f : Int) (hf : f ≠ 0) (n : Nat) : rTake (l, f) n = ([], false, (l, f)) := by
  unfold rTake
  rw [if_pos hf]
theorem numGo_fin (k : Nat) : ∀ (i : Nat) (n : Int) (l : List Int), ((numGo k i n l).2.2 ≠ 0 → (numGo k i n l).1 = 0) ∧ ((numGo k i n l).2.2 = 0 → ∃ m, m ≤ l.length ∧ (numGo k i n l).2.1 = l.drop m) := by
  induction k with
  | zero => intro i n l; exact ⟨fun _ => rfl, fun h => absurd h (by simp [numGo])⟩
  | succ k ih =>
    intro i n l
    cases l with
    | nil => exact ⟨fun _ => rfl, fun h => absurd h (by simp [numGo])⟩
    | cons b bs =>
      rw [numGo]
      split
      · exact ⟨fun _ => rfl, fun h => absurd h (by simp)⟩
      · split
        · obtain ⟨h1, h2⟩ := ih (i + 1) (n + b % 128 * ((128 ^ i : Nat) : Int)) bs
          refine ⟨h1, fun h => ?_⟩
          obtain ⟨m, hm, he⟩ := h2 h
          exact ⟨m + 1, by simp; omega, by rw [he]; rfl⟩
        · split
          · exact ⟨fun _ => rfl, fun h => absurd h (by simp)⟩
          · exact ⟨fun h => absurd rfl h, fun _ => ⟨1, by simp, rfl⟩⟩
theorem got_read (l : List Int) (p : S49) : (gotF (l, 0) p).1 = (readF l p).1 ∧ (gotF (l, 0) p).2.1 = (readF l p).2.1 ∧ (gotF (l, 0) p).2.2.1 = (readF l p).2.2.1 ∧ (gotF (l, 0) p).2.2.2.2 = (readF l p).2.2.2.2 ∧
    0 ≤ (readF l p).2.2.2.1 ∧ (readF l p).2.2.2.1 ≤ l.length ∧ ((readF l p).2.2.2.2 = 0 → (gotF (l, 0) p).2.2.2.1 = l.drop (readF l p).2.2.2.1.toNat) := by
  unfold gotF readF
  by_cases h1 : p.f0 = 1
  · rw [if_pos h1, if_pos h1]
    unfold rUint rdUint
    by_cases hk : p.f1 < 1 ∨ 8 < p.f1
    · rw [if_pos hk, if_pos hk]
      exact ⟨rfl, rfl, rfl, rfl, by simp, by simp, fun _ => rfl⟩
    · rw [if_neg hk, if_neg hk, rTake_0]
      by_cases hl : l.length < p.f1.toNat
      · rw [if_pos hl, if_pos (show (l.length : Int) < p.f1 by omega)]
        exact ⟨rfl, rfl, rfl, rfl, by simp, by simp, fun h => absurd h (by simp)⟩
      · rw [if_neg hl, if_neg (show ¬ (l.length : Int) < p.f1 by omega)]
        exact ⟨rfl, rfl, rfl, rfl, by show 0 ≤ p.f1; omega, by show p.f1 ≤ (l.length : Int); omega, fun _ => rfl⟩
  · rw [if_neg h1, if_neg h1]
    by_cases h2 : p.f0 = 2
    · rw [if_pos h2, if_pos h2]
      unfold rUint rdInt
      rw [if_neg (show ¬ ((8 : Int) < 1 ∨ (8 : Int) < 8) by decide), show (8 : Int).toNat = 8 from rfl, rTake_0]
      by_cases hl : l.length < 8
      · rw [if_pos hl, if_pos hl]
        exact ⟨rfl, by show unzig 0 = 0; decide, rfl, rfl, by simp, by simp, fun h => absurd h (by simp)⟩
      · rw [if_neg hl, if_neg hl]
        exact ⟨rfl, rfl, rfl, rfl, by simp, by show (8 : Int) ≤ (l.length : Int); omega, fun _ => rfl⟩
    · rw [if_neg h2, if_neg h2]
      by_cases h3 : p.f0 = 3
      · rw [if_pos h3, if_pos h3]
        unfold rNum fin3
        rw [if_neg (by simp)]
        obtain ⟨hz, hd⟩ := numGo_fin 10 0 0 l
        by_cases hf : (numGo 10 0 0 l).2.2 = 0
        · rw [if_pos hf]
          obtain ⟨m, hm, he⟩ := hd hf
          refine ⟨rfl, rfl, rfl, hf, ?_, ?_, fun _ => ?_⟩
          · show 0 ≤ (l.length : Int) - ((numGo 10 0 0 l).2.1.length : Int)
            rw [he, List.length_drop]; omega
          · show (l.length : Int) - ((numGo 10 0 0 l).2.1.length : Int) ≤ _
            omega
          · show (numGo 10 0 0 l).2.1 = l.drop ((l.length : Int) - ((numGo 10 0 0 l).2.1.length : Int)).toNat
            rw [he, List.length_drop]
            congr 1
            omega
        · rw [if_neg hf]
          exact ⟨hz hf, rfl, rfl, rfl, by simp, by simp, fun h => absurd h hf⟩
      · rw [if_neg h3, if_neg h3]
        by_cases h4 : p.f0 = 4
        · rw [if_pos h4, if_pos h4]
          unfold rdRaw
          by_cases hn : p.f1 < 0
          · rw [if_pos hn, if_pos hn]
            exact ⟨rfl, rfl, rfl, rfl, by simp, by simp, fun _ => rfl⟩
          · rw [if_neg hn, if_neg hn, rTake_0]
            by_cases hl : l.length < p.f1.toNat
            · rw [if_pos hl, if_pos (show (l.length : Int) < p.f1 by omega)]
              exact ⟨rfl, rfl, rfl, rfl, by simp, by simp, fun h => absurd h (by simp)⟩
            · rw [if_neg hl, if_neg (show ¬ (l.length : Int) < p.f1 by omega)]
              exact ⟨rfl, rfl, rfl, rfl, by show 0 ≤ p.f1; omega, by show p.f1 ≤ (l.length : Int); omega, fun _ => rfl⟩
        · rw [if_neg h4, if_neg h4]
          exact ⟨rfl, rfl, rfl, rfl, by simp, by simp, fun _ => rfl⟩
theorem got_fault (l : List Int) (f : Int) (hf : f ≠ 0) (p : S49) : gotF (l, f) p = (0, 0, [], (l, f)) := by
  unfold gotF rUint rNum
  have e := rTake_f l f hf
  split
  · split
    · rfl
    · rw [e]; rfl
  · split
    · rw [if_neg (by decide), e]; rfl
    · split
      · rfl
      · split
        · split
          · rfl
          · rw [e]
        · rfl
end Go.Proofs.Ytalpemoodollpaa.P
/- What is put is read as it was; of fewer bytes it is not; what is read has just those bytes. -/
namespace Go.Proofs.Ytalpemoodollpaa.P
open Go.RowKit Go.Proofs.YtalpemoodollpaaW.PrintWords Go.Proofs.YtalpemoodollpaaW.PrintLast Go.Proofs.YtalpemoodollpaaW.PrintMore
set_option linter.unusedVariables false
set_option linter.unusedSimpArgs false
theorem numGo_form (j : Nat) : ∀ (i : Nat) (a : Int) (n : Nat) (rest : List Int), i + j = 9 → n < 2 * 128 ^ j → (0 < i → 1 ≤ n) →
    numGo (j + 1) i a (numForm n ++ rest) = (a + (n : Int) * ((128 ^ i : Nat) : Int), (rest, 0)) := by
  induction j with
  | zero =>
    intro i a n rest hi hn hp
    obtain rfl : i = 9 := by omega
    have hn2 : n < 2 := by simpa using hn
    have h1 := hp (by omega)
    obtain rfl : n = 1 := by omega
    rw [numForm_lt (by omega)]
    simp [numGo]
  | succ j ih =>
    intro i a n rest hi hn hp
    by_cases h : n < 128
    · rw [numForm_lt h, List.cons_append, List.nil_append, numGo, if_neg (by omega), if_neg (by omega), if_neg (by omega)]
      have : (n : Int) % 128 = n := by omega
      rw [this]
    · rw [numForm_ge h, List.cons_append, numGo, if_neg (by omega), if_pos (by omega)]
      rw [ih (i + 1) _ (n / 128) rest (by omega) (by rw [Nat.pow_succ] at hn; omega) (by omega)]
      congr 1
      rw [Nat.pow_succ]
      have e : (((n % 128 + 128 : Nat) : Int) % 128) = ((n % 128 : Nat) : Int) := by omega
      rw [e]
      have e2 : (n : Int) = ((n % 128 : Nat) : Int) + ((n / 128 : Nat) : Int) * 128 := by omega
      generalize ((n % 128 : Nat) : Int) = x at *
      generalize ((n / 128 : Nat) : Int) = y at *
      rw [e2]
      push_cast
      generalize ((128 : Int) ^ i) = P
      rw [Int.add_mul, Int.mul_assoc y 128 P, Int.mul_comm 128 P]
      omega
theorem rNum_form (n : Nat) (hn : n < 18446744073709551616) (rest : List Int) : rNum (numForm n ++ rest, 0) = ((n : Int), (rest, 0)) := by
  unfold rNum
  rw [if_neg (by simp)]
  have := numGo_form 9 0 0 n rest (by omega) (by have : (2 * 128 ^ 9 : Nat) = 18446744073709551616 := by decide
                                                 omega) (by omega)
  simpa using this
theorem numGo_short (j : Nat) : ∀ (i : Nat) (a : Int) (n m : Nat), i + j = 9 → n < 2 * 128 ^ j → m < (numForm n).length → (numGo (j + 1) i a ((numForm n).take m)).2.2 = 3 := by
  induction j with
  | zero =>
    intro i a n m hi hn hm
    have hn2 : n < 2 := by simpa using hn
    rw [numForm_lt (by omega)] at hm ⊢
    obtain rfl : m = 0 := by simp at hm; omega
    rfl
  | succ j ih =>
    intro i a n m hi hn hm
    cases m with
    | zero => rfl
    | succ m =>
      by_cases h : n < 128
      · rw [numForm_lt h] at hm
        simp at hm
      · rw [numForm_ge h] at hm ⊢
        rw [List.take_succ_cons, numGo, if_neg (by omega), if_pos (by omega)]
        exact ih (i + 1) _ (n / 128) m (by omega) (by rw [Nat.pow_succ] at hn; omega) (by simpa using hm)
theorem rNum_short (n m : Nat) (hn : n < 18446744073709551616) (hm : m < (numForm n).length) : (rNum ((numForm n).take m, 0)).2.2 = 3 := by
  unfold rNum
  rw [if_neg (by simp)]
  exact numGo_short 9 0 0 n m (by omega) (by have : (2 * 128 ^ 9 : Nat) = 18446744073709551616 := by decide
                                             omega) hm
theorem numGo_back (j : Nat) : ∀ (i : Nat) (a : Int) (l : List Int), Byt l → i + j = 9 → (numGo (j + 1) i a l).2.2 = 0 →
    ∃ n : Nat, l = numForm n ++ (numGo (j + 1) i a l).2.1 ∧ (numGo (j + 1) i a l).1 = a + (n : Int) * ((128 ^ i : Nat) : Int) ∧ n < 2 * 128 ^ j ∧ (0 < i → 1 ≤ n) := by
  induction j with
  | zero =>
    intro i a l hb hi h
    obtain rfl : i = 9 := by omega
    cases l with
    | nil => simp [numGo] at h
    | cons b bs =>
      have hbb := hb.cons.1
      rw [numGo] at h ⊢
      by_cases h1 : (9 : Nat) = 9 ∧ 1 < b % 128
      · rw [if_pos h1] at h; simp at h
      · rw [if_neg h1] at h ⊢
        by_cases h2 : 128 ≤ b
        · rw [if_pos h2] at h; simp [numGo] at h
        · rw [if_neg h2] at h ⊢
          by_cases h3 : b % 128 = 0 ∧ 0 < 9
          · rw [if_pos h3] at h; simp at h
          · rw [if_neg h3]
            have e : b = 1 := by omega
            subst e
            exact ⟨1, by rw [numForm_lt (by omega)]; rfl, by simp, by simp, by omega⟩
  | succ j ih =>
    intro i a l hb hi h
    cases l with
    | nil => simp [numGo] at h
    | cons b bs =>
      obtain ⟨hbb, hbs⟩ := hb.cons
      rw [numGo] at h ⊢
      rw [if_neg (by omega)] at h ⊢
      by_cases h2 : 128 ≤ b
      · rw [if_pos h2] at h ⊢
        obtain ⟨n, e1, e2, e3, e4⟩ := ih (i + 1) _ bs hbs (by omega) h
        have hn1 := e4 (by omega)
        refine ⟨(b % 128).toNat + 128 * n, ?_, ?_, ?_, by omega⟩
        · rw [numForm_ge (by omega), show ((b % 128).toNat + 128 * n) / 128 = n by omega, List.cons_append, ← e1]
          congr 1
          omega
        · rw [e2, Nat.pow_succ]
          have : (((b % 128).toNat + 128 * n : Nat) : Int) = b % 128 + 128 * (n : Int) := by omega
          rw [this]
          push_cast
          generalize ((128 : Int) ^ i) = P
          generalize b % 128 = x
          rw [Int.add_mul, Int.mul_comm P 128, ← Int.mul_assoc, Int.mul_comm (n : Int) 128]
          omega
        · rw [Nat.pow_succ]; omega
      · rw [if_neg h2] at h ⊢
        by_cases h3 : b % 128 = 0 ∧ 0 < i
        · rw [if_pos h3] at h; simp at h
        · rw [if_neg h3]
          refine ⟨b.toNat, ?_, ?_, ?_, by omega⟩
          · rw [numForm_lt (by omega)]
            simp only [List.cons_append, List.nil_append]
            congr 1
            omega
          · show a + b % 128 * _ = _
            rw [show ((b.toNat : Nat) : Int) = b % 128 by omega]
          · have : 0 < 128 ^ j := Nat.pos_of_ne_zero (by simp)
            rw [Nat.pow_succ]; omega
theorem rNum_back (l : List Int) (hb : Byt l) (h : (rNum (l, 0)).2.2 = 0) : ∃ n : Nat, l = numForm n ++ (rNum (l, 0)).2.1 ∧ (rNum (l, 0)).1 = (n : Int) ∧ n < 18446744073709551616 := by
  unfold rNum at h ⊢
  rw [if_neg (by simp)] at h ⊢
  obtain ⟨n, e1, e2, e3, _⟩ := numGo_back 9 0 0 l hb (by omega) h
  refine ⟨n, e1, by simpa using e2, ?_⟩
  have : (2 * 128 ^ 9 : Nat) = 18446744073709551616 := by decide
  omega
theorem rUint_form (n k : Nat) (h1 : 1 ≤ k) (h8 : k ≤ 8) (rest : List Int) : rUint (uintForm n k ++ rest, 0) (k : Int) = (((n % 256 ^ k : Nat) : Int), (rest, 0)) := by
  unfold rUint
  rw [if_neg (by omega), Int.toNat_natCast, rTake_ok _ _ (by rw [List.length_append, uintForm_length]; omega)]
  simp only
  rw [List.take_left' (uintForm_length n k), List.drop_left' (uintForm_length n k), beNum_uintForm]
theorem rUint_short (l : List Int) (k : Int) (h1 : 1 ≤ k) (h8 : k ≤ 8) (h : (l.length : Int) < k) : rUint (l, 0) k = (0, (l, 3)) := by
  unfold rUint
  rw [if_neg (by omega), rTake_few _ _ (by omega)]
  rfl
theorem uintForm_beNum (l : List Int) (hb : Byt l) : uintForm (beNum l).toNat l.length = l := by
  induction l with
  | nil => rfl
  | cons b bs ih =>
    obtain ⟨hbb, hbs⟩ := hb.cons
    have hr := beNum_range bs hbs
    obtain ⟨m, hm⟩ := Int.eq_ofNat_of_zero_le hr.1
    obtain ⟨c, hc⟩ := Int.eq_ofNat_of_zero_le hbb.1
    have hml : m < 256 ^ bs.length := by rw [hm] at hr; exact_mod_cast hr.2
    have hpos : 0 < 256 ^ bs.length := Nat.pos_of_ne_zero (by simp)
    rw [beNum_cons, hm, hc]
    have e : ((c : Int) * ((256 ^ bs.length : Nat) : Int) + (m : Int)).toNat = c * 256 ^ bs.length + m := by
      have : ((c : Int) * ((256 ^ bs.length : Nat) : Int) + (m : Int)) = ((c * 256 ^ bs.length + m : Nat) : Int) := by rw [Int.natCast_add, Int.natCast_mul]
      rw [this, Int.toNat_natCast]
    rw [e, List.length_cons, uintForm]
    have hd : (c * 256 ^ bs.length + m) / 256 ^ bs.length = c := by
      rw [Nat.mul_comm, Nat.mul_add_div hpos, Nat.div_eq_of_lt hml, Nat.add_zero]
    rw [hd]
    have hc2 : c % 256 = c := by omega
    rw [hc2]
    congr 1
    have hmod : ∀ k, k ≤ bs.length → uintForm (c * 256 ^ bs.length + m) k = uintForm m k := by
      intro k hk
      induction k with
      | zero => rfl
      | succ k ihk =>
        rw [uintForm, uintForm, ihk (by omega)]
        congr 2
        obtain ⟨d, hd⟩ : ∃ d, bs.length = k + 1 + d := ⟨bs.length - (k + 1), by omega⟩
        rw [hd, Nat.pow_add, Nat.pow_succ]
        have : c * (256 ^ k * 256 * 256 ^ d) + m = 256 ^ k * (c * 256 ^ d * 256) + m := by
          congr 1
          rw [Nat.mul_assoc (256 ^ k), Nat.mul_left_comm, Nat.mul_comm 256 (256 ^ d), Nat.mul_assoc c]
        have hp : 0 < 256 ^ k := Nat.pos_of_ne_zero (by simp)
        rw [this, Nat.mul_add_div hp, Nat.add_comm, Nat.add_mul_mod_self_right]
    rw [hmod _ (Nat.le_refl _)]
    have := ih hbs
    rw [hm] at this
    simpa using this
theorem rUint_back (l : List Int) (k : Nat) (h1 : 1 ≤ k) (h8 : k ≤ 8) (hb : Byt l) (h : (rUint (l, 0) (k : Int)).2.2 = 0) :
    ∃ n : Nat, l = uintForm n k ++ (rUint (l, 0) (k : Int)).2.1 ∧ (rUint (l, 0) (k : Int)).1 = (n : Int) ∧ n < 256 ^ k := by
  by_cases hl : l.length < k
  · rw [rUint_short l k (by omega) (by omega) (by omega)] at h
    simp at h
  · unfold rUint
    rw [if_neg (by omega), Int.toNat_natCast, rTake_ok _ _ (by omega)]
    simp only
    have hlen : (l.take k).length = k := by rw [List.length_take]; omega
    have hr := beNum_range (l.take k) (hb.take k)
    rw [hlen] at hr
    refine ⟨(beNum (l.take k)).toNat, ?_, by omega, by have := hr.2; omega⟩
    have := uintForm_beNum (l.take k) (hb.take k)
    rw [hlen] at this
    rw [this, List.take_append_drop]
theorem intForm_read (n : Int) (h0 : -9223372036854775808 ≤ n) (h1 : n ≤ 9223372036854775807) (rest : List Int) : unzig (rUint (intForm n ++ rest, 0) 8).1 = n ∧ (rUint (intForm n ++ rest, 0) 8).2 = (rest, 0) := by
  have := rUint_form (zig n).toNat 8 (by omega) (by omega) rest
  have hz := zig_range n h0 h1
  unfold intForm
  rw [show (8 : Int) = ((8 : Nat) : Int) from rfl, this]
  have h256 : (256 ^ 8 : Nat) = 18446744073709551616 := by decide
  have e : (zig n).toNat % 256 ^ 8 = (zig n).toNat := Nat.mod_eq_of_lt (by omega)
  rw [e]
  refine ⟨?_, rfl⟩
  show unzig (((zig n).toNat : Nat) : Int) = n
  rw [Int.toNat_of_nonneg hz.1, unzig_zig]
theorem intForm_back (l : List Int) (hb : Byt l) (h : (rUint (l, 0) 8).2.2 = 0) : l = intForm (unzig (rUint (l, 0) 8).1) ++ (rUint (l, 0) 8).2.1 ∧ -9223372036854775808 ≤ unzig (rUint (l, 0) 8).1 ∧ unzig (rUint (l, 0) 8).1 ≤ 9223372036854775807 := by
  obtain ⟨n, e1, e2, e3⟩ := rUint_back l 8 (by omega) (by omega) hb h
  have e2' : (rUint (l, 0) 8).1 = (n : Int) := e2
  have e1' : l = uintForm n 8 ++ (rUint (l, 0) 8).2.1 := e1
  have h256 : (256 ^ 8 : Nat) = 18446744073709551616 := by decide
  rw [e2']
  refine ⟨?_, ?_, ?_⟩
  · unfold intForm
    rw [zig_unzig _ (by omega), Int.toNat_natCast]
    exact e1'
  · unfold unzig; split <;> omega
  · unfold unzig; split <;> omega
end Go.Proofs.Ytalpemoodollpaa.P
/- A box of nine numbers. -/
namespace Go.Proofs.Ytalpemoodollpaa.P
open Go.RowKit Go.Proofs.YtalpemoodollpaaW.PrintWords Go.Proofs.YtalpemoodollpaaW.PrintLast Go.Proofs.YtalpemoodollpaaW.PrintMore
set_option linter.unusedVariables false
set_option linter.unusedSimpArgs false

/-- A box of nine numbers at block b. -/
def Box9 (W : World) (t : Nat) (b : Nat) (x0 x1 x2 x3 x4 x5 x6 x7 x8 : Int) : Prop :=
  W.heap[b]? = some (.cells #[.int .i64 x0, .int .i64 x1, .int .i64 x2, .int .i64 x3, .int .i64 x4, .int .i64 x5, .int .i64 x6, .int .i64 x7, .int .i64 x8] t (0, 0))
theorem Box9.cells {W : World} {t b : Nat} {x0 x1 x2 x3 x4 x5 x6 x7 x8 : Int} (h : Box9 W t b x0 x1 x2 x3 x4 x5 x6 x7 x8) :
    W.cell? ⟨b, 0, none⟩ = some (.int .i64 x0) ∧ W.cell? ⟨b, 1, none⟩ = some (.int .i64 x1) ∧ W.cell? ⟨b, 2, none⟩ = some (.int .i64 x2) ∧ W.cell? ⟨b, 3, none⟩ = some (.int .i64 x3) ∧ W.cell? ⟨b, 4, none⟩ = some (.int .i64 x4) ∧
    W.cell? ⟨b, 5, none⟩ = some (.int .i64 x5) ∧ W.cell? ⟨b, 6, none⟩ = some (.int .i64 x6) ∧ W.cell? ⟨b, 7, none⟩ = some (.int .i64 x7) ∧ W.cell? ⟨b, 8, none⟩ = some (.int .i64 x8) :=
  ⟨(blk_cell h 0).trans rfl, (blk_cell h 1).trans rfl, (blk_cell h 2).trans rfl, (blk_cell h 3).trans rfl, (blk_cell h 4).trans rfl, (blk_cell h 5).trans rfl, (blk_cell h 6).trans rfl, (blk_cell h 7).trans rfl, (blk_cell h 8).trans rfl⟩

end Go.Proofs.Ytalpemoodollpaa.P
/- A reader of one's own, call by call. -/
namespace Go.Proofs.Ytalpemoodollpaa.P
open Go.RowKit Go.Proofs.YtalpemoodollpaaW.PrintWords Go.Proofs.YtalpemoodollpaaW.PrintLast Go.Proofs.YtalpemoodollpaaW.PrintMore
set_option linter.unusedVariables false
set_option linter.unusedSimpArgs false
/-- All blocks but g stay. -/
def KeepG (W W1 : World) (g : Nat) : Prop := ∀ (k : Nat) (o : Obj), W.heap[k]? = some o → k ≠ g → W1.heap[k]? = some o
/-- A reader at g, whose block and row lie at lo or behind; below the first world's end all is as it was. -/
structure RK (w0 W : World) (lo g : Nat) (s : List Int × Int) : Prop where
  ex : ∃ row, RS W g row s ∧ ∀ k, row = some k → lo ≤ k
  bel : Below w0.heap.size w0 W
  hlo : w0.heap.size ≤ lo
  hg : lo ≤ g
namespace RK
variable {w0 W W1 : World} {lo g : Nat} {s s1 : List Int × Int}
theorem of_post {row : Option Nat} (hr : ∀ k, row = some k → lo ≤ k) (hB : Below w0.heap.size w0 W) (hlo : w0.heap.size ≤ lo) (hg : lo ≤ g) (hp : RPost W g row s1 W1) : RK w0 W1 lo g s1 ∧ KeepG W W1 g :=
  ⟨⟨⟨row, hp.1, hr⟩, hB.trans (hp.2.below hB.size (fun k hk => by rw [hk]; omega)), hlo, hg⟩, fun k o h hne => hp.2.blk h hne⟩
theorem below (h : RK w0 W lo g s) (hb : Below W.heap.size W W1) : RK w0 W1 lo g s := by
  obtain ⟨⟨row, hs, hr⟩, hB, hlo, hg⟩ := h
  exact ⟨⟨row, hs.below hb, hr⟩, below_then hB hB.size hb, hlo, hg⟩
theorem alloc (h : RK w0 W lo g s) (o : Obj) : RK w0 (W.alloc o) lo g s := h.below (below_alloc (Below.refl _ _) _)
theorem set (h : RK w0 W lo g s) {b j : Nat} (h0 : w0.heap.size ≤ b) (hb : b < lo) (u : Value) : RK w0 (W.setCell ⟨b, j, none⟩ u) lo g s := by
  obtain ⟨⟨row, hs, hr⟩, hB, hlo, hg⟩ := h
  exact ⟨⟨row, hs.far (by omega) (fun e => by have := hr b e; omega) u, hr⟩, hB.setCell (p := ⟨b, j, none⟩) h0 u, hlo, hg⟩
theorem drewN (h : RK w0 W lo g s) (n : Nat) : RK w0 (W.drewN n) lo g s := h.below (pw_below_drewN (Below.refl _ _) n)
theorem bound (h : RK w0 W lo g s) : s.1.length ≤ 9223372036854775807 := by
  obtain ⟨⟨row, ⟨A, c, _, _, hC, _⟩, _⟩, _⟩ := h
  exact C_bound hC
theorem byt (h : RK w0 W lo g s) : Byt s.1 := by
  obtain ⟨⟨row, ⟨A, c, _, _, _, _, _, hb⟩, _⟩, _⟩ := h
  exact hb
theorem lt (h : RK w0 W lo g s) : g < W.heap.size := by
  obtain ⟨⟨row, hs, _⟩, _⟩ := h
  exact hs.lt
theorem uint (h : RK w0 W lo g s) (k : Int) :
    Calls Try.prog 104 #[.pointer (some ⟨g, 0, none⟩), .int .i64 k] W fun e w' => e = .returned (.int .u64 (rUint s k).1) ∧ RK w0 w' lo g (rUint s k).2 ∧ KeepG W w' g := by
  obtain ⟨⟨row, hs, hr⟩, hB, hlo, hg⟩ := h
  exact (octets_Reader_Uint.calls g row s k W hs).mono fun e w' ⟨he, hp⟩ => ⟨he, of_post hr hB hlo hg hp⟩
theorem int (h : RK w0 W lo g s) :
    Calls Try.prog 117 #[.pointer (some ⟨g, 0, none⟩)] W fun e w' => e = .returned (.int .i64 (unzig (rUint s 8).1)) ∧ RK w0 w' lo g (rUint s 8).2 ∧ KeepG W w' g := by
  obtain ⟨⟨row, hs, hr⟩, hB, hlo, hg⟩ := h
  exact (octets_Reader_Int.calls g row s W hs).mono fun e w' ⟨he, hp⟩ => ⟨he, of_post hr hB hlo hg hp⟩
theorem num (h : RK w0 W lo g s) :
    Calls Try.prog 100 #[.pointer (some ⟨g, 0, none⟩)] W fun e w' => e = .returned (.int .u64 (rNum s).1) ∧ RK w0 w' lo g (rNum s).2 ∧ KeepG W w' g := by
  obtain ⟨⟨row, hs, hr⟩, hB, hlo, hg⟩ := h
  exact (octets_Reader_Num.calls g row s W hs).mono fun e w' ⟨he, hp⟩ => ⟨he, of_post hr hB hlo hg hp⟩
theorem fault (h : RK w0 W lo g s) : Calls Try.prog 63 #[.pointer (some ⟨g, 0, none⟩)] W fun e w' => e = .returned (.int .i64 s.2) ∧ W = w' := by
  obtain ⟨⟨row, hs, hr⟩, hB, hlo, hg⟩ := h
  exact octets_Reader_Fault.calls g row s W hs
theorem left (h : RK w0 W lo g s) : Calls Try.prog 64 #[.pointer (some ⟨g, 0, none⟩)] W fun e w' => e = .returned (.int .i64 s.1.length) ∧ W = w' := by
  obtain ⟨⟨row, hs, hr⟩, hB, hlo, hg⟩ := h
  exact octets_Reader_Left.calls g row s W hs
/-- A new one. -/
theorem new (A : Option Addr) (c : Nat) (bs : List Int) (hB : Below w0.heap.size w0 W) (hr : Kd.C (Kd.int .u8) W A bs.length bs) (hl : bs.length ≤ 140737488355328) (hb : Byt bs) :
    Calls Try.prog 60 #[.slice A bs.length c] W fun e w' => ∃ g, e = .returned (.pointer (some ⟨g, 0, none⟩)) ∧ RK w0 w' W.heap.size g (bs, 0) ∧ Below W.heap.size W w' := by
  refine (octets_NewReader.calls A c bs W hr hl hb).mono ?_
  rintro e w' ⟨g, row, he, hs, hbl, hg, _, hrow⟩
  exact ⟨g, he, ⟨⟨row, hs, hrow⟩, below_then hB hB.size hbl, hB.size, hg⟩, hbl⟩
end RK
theorem KeepG.box {W W1 : World} {g t b : Nat} {x0 x1 x2 x3 x4 x5 x6 x7 x8 : Int} (h : KeepG W W1 g) (hb : Box9 W t b x0 x1 x2 x3 x4 x5 x6 x7 x8) (hne : b ≠ g) : Box9 W1 t b x0 x1 x2 x3 x4 x5 x6 x7 x8 := h _ _ hb hne
theorem rUint1_range (s : List Int × Int) (h : Byt s.1) : 0 ≤ (rUint s 1).1 ∧ (rUint s 1).1 ≤ 255 := by
  obtain ⟨l, f⟩ := s
  have z : (0 : Int) ≤ 0 ∧ (0 : Int) ≤ 255 := by decide
  unfold rUint
  rw [if_neg (by decide), show (1 : Int).toNat = 1 from rfl]
  unfold rTake
  split
  · exact z
  · split
    · exact z
    · cases l with
      | nil => exact z
      | cons b bs =>
        have hb := (Byt.cons h).1
        have e : beNum [b] = b := by simp [beNum]
        simp only [List.take_succ_cons, List.take_zero, e]
        exact hb
theorem z64 : (0 : Int) ≤ 0 ∧ (0 : Int) < 18446744073709551616 := by decide
theorem byt_rTake (s : List Int × Int) (n : Nat) (h : Byt s.1) : Byt (rTake s n).2.2.1 := by
  unfold rTake
  split
  · exact h
  · split
    · exact h
    · exact h.drop n
theorem byt_rUint (s : List Int × Int) (k : Int) (h : Byt s.1) : Byt (rUint s k).2.1 := by
  unfold rUint
  split
  · exact h
  · exact byt_rTake s _ h
theorem byt_numGo (k : Nat) : ∀ (i : Nat) (n : Int) (l : List Int), Byt l → Byt (numGo k i n l).2.1 := by
  induction k with
  | zero => intro i n l h; exact h
  | succ k ih =>
    intro i n l h
    cases l with
    | nil => exact Byt.nil
    | cons b bs =>
      rw [numGo]
      split
      · exact h.cons.2
      · split
        · exact ih _ _ _ h.cons.2
        · split <;> exact h.cons.2
theorem byt_rNum (s : List Int × Int) (h : Byt s.1) : Byt (rNum s).2.1 := by
  unfold rNum
  split
  · exact h
  · exact byt_numGo _ _ _ _ h
theorem numGo_range (j : Nat) : ∀ (i : Nat) (n : Int) (l : List Int), Byt l → i + j = 9 → 0 ≤ n → n < ((128 ^ i : Nat) : Int) → 0 ≤ (numGo (j + 1) i n l).1 ∧ (numGo (j + 1) i n l).1 < 18446744073709551616 := by
  induction j with
  | zero =>
    intro i n l h hi h0 h1
    obtain rfl : i = 9 := by omega
    have e9 : ((128 ^ 9 : Nat) : Int) = 9223372036854775808 := by decide
    rw [e9] at h1
    cases l with
    | nil => exact z64
    | cons b bs =>
      have hb := h.cons.1
      rw [numGo]
      split
      · exact z64
      · split
        · exact z64
        · split
          · exact z64
          · rw [e9]
            simp only
            omega
  | succ j ih =>
    intro i n l h hi h0 h1
    cases l with
    | nil => exact z64
    | cons b bs =>
      have hb := h.cons.1
      have hp : (0 : Int) < ((128 ^ i : Nat) : Int) := by exact_mod_cast Nat.pos_of_ne_zero (by simp)
      have hle : ((128 ^ (i + 1) : Nat) : Int) ≤ 9223372036854775808 := by
        have : 128 ^ (i + 1) ≤ 128 ^ 9 := Nat.pow_le_pow_right (by decide) (by omega)
        have e9 : (128 ^ 9 : Nat) = 9223372036854775808 := by decide
        omega
      have hsucc : ((128 ^ (i + 1) : Nat) : Int) = ((128 ^ i : Nat) : Int) * 128 := by rw [Nat.pow_succ]; exact Int.natCast_mul _ _
      have h2 : 0 ≤ b % 128 := by omega
      have h3 : b % 128 ≤ 127 := by omega
      have hm0 : 0 ≤ b % 128 * ((128 ^ i : Nat) : Int) := Int.mul_nonneg h2 (by omega)
      have hm1 : b % 128 * ((128 ^ i : Nat) : Int) ≤ 127 * ((128 ^ i : Nat) : Int) := Int.mul_le_mul_of_nonneg_right h3 (by omega)
      rw [numGo]
      split
      · exact z64
      · split
        · exact ih _ _ _ h.cons.2 (by omega) (by omega) (by omega)
        · split
          · exact z64
          · simp only
            omega
theorem rNum_range (s : List Int × Int) (h : Byt s.1) : 0 ≤ (rNum s).1 ∧ (rNum s).1 < 18446744073709551616 := by
  unfold rNum
  split
  · exact z64
  · exact numGo_range 9 0 0 s.1 h (by omega) (by decide) (by decide)
theorem unzig_range (n : Int) (h0 : 0 ≤ n) (h1 : n < 18446744073709551616) : -9223372036854775808 ≤ unzig n ∧ unzig n ≤ 9223372036854775807 := by
  unfold unzig; split <;> omega
end Go.Proofs.Ytalpemoodollpaa.P
/- The reader of damperref05. -/
namespace Go.Proofs.Ytalpemoodollpaa.P
open Go.RowKit Go.Proofs.YtalpemoodollpaaW.PrintWords Go.Proofs.YtalpemoodollpaaW.PrintLast Go.Proofs.YtalpemoodollpaaW.PrintMore
set_option linter.unusedVariables false
set_option linter.unusedSimpArgs false
/-- The document's reader at g: up to the first fault it reads as s. -/
structure RR (w0 W : World) (g : Nat) (s : List Int × Int) : Prop where
  ex : ∃ (l : List Int) (A : Option Addr) (c : Nat), W.heap[g]? = some (.cells #[.slice A l.length c, .int .i64 s.2] 152 (0, 0)) ∧ l.length ≤ c ∧ Kd.C (Kd.int .u8) w0 A l.length l ∧ Byt l ∧ l.length ≤ 140737488355328 ∧ (s.2 = 0 → l = s.1)
  bel : Below w0.heap.size w0 W
  hg : w0.heap.size ≤ g
theorem RR.below {w0 W W1 : World} {g : Nat} {s : List Int × Int} (h : RR w0 W g s) (hb : Below W.heap.size W W1) : RR w0 W1 g s := by
  obtain ⟨⟨l, A, c, h1, h2⟩, hB, hg⟩ := h
  exact ⟨⟨l, A, c, (hb.block _ (blk_lt h1)).trans h1, h2⟩, below_then hB hB.size hb, hg⟩
theorem RR.set {w0 W : World} {g : Nat} {s : List Int × Int} (h : RR w0 W g s) {b j : Nat} (h0 : w0.heap.size ≤ b) (hb : b ≠ g) (u : Value) : RR w0 (W.setCell ⟨b, j, none⟩ u) g s := by
  obtain ⟨⟨l, A, c, h1, h2⟩, hB, hg⟩ := h
  exact ⟨⟨l, A, c, (Below.heap_setCell W ⟨b, j, none⟩ u g (by show g ≠ b; omega)).trans h1, h2⟩, hB.setCell (p := ⟨b, j, none⟩) h0 u, hg⟩
/-- take, behind a fault. -/
theorem take_fault (g : Nat) (l : List Int) (A : Option Addr) (c : Nat) (f : Int) (W : World) (hb : W.heap[g]? = some (.cells #[.slice A l.length c, .int .i64 f] 152 (0, 0))) (hf : f ≠ 0) (n s z k : Int) (B : Option Addr) (m q : Nat) :
    Calls Try.prog 140 #[.pointer (some ⟨g, 0, none⟩), .agg #[.int .u64 n, .int .i64 s, .slice B m q, .int .i64 z, .int .i64 k]] W fun e w' => e = .returned (.agg #[.int .u64 0, .int .i64 0, .slice none 0 0, .int .i64 0, .int .i64 0]) ∧ Below W.heap.size W w' := by
  have hlt := blk_lt hb
  have hb1 := blk_alloc (blk_alloc hb (.cells #[.int .u64 n, .int .i64 s, .slice B m q, .int .i64 z, .int .i64 k] 81)) (.cells #[.int .u64 0, .int .i64 0, .slice none 0 0, .int .i64 0, .int .i64 0] 81)
  have c1 := (blk_cell hb1 1).trans rfl
  have HX := Aside0.mk (blk_new (W.alloc (.cells #[.int .u64 n, .int .i64 s, .slice B m q, .int .i64 z, .int .i64 k] 81)) (.cells #[.int .u64 0, .int .i64 0, .slice none 0 0, .int .i64 0, .int .i64 0] 81))
  have HB := Aside0.mk (below_alloc (below_alloc (Below.refl W.heap.size W) (.cells #[.int .u64 n, .int .i64 s, .slice B m q, .int .i64 z, .int .i64 k] 81)) (.cells #[.int .u64 0, .int .i64 0, .slice none 0 0, .int .i64 0, .int .i64 0] 81))
  have hff : (f != 0) = true := by simpa using hf
  clear hb hb1 hf
  go_enter Try.func140, Try.ntmps140
  go_wp2
  refine bodyPost_ret (results_cell_row (fn := Try.f140) (p := 4) (ty := 81) rfl _ _ (W.heap.size + 1) 81 #[.int .u64 0, .int .i64 0, .slice none 0 0, .int .i64 0, .int .i64 0] (0, 0) _ rfl ?_ Try.underlying81 rfl (by kernel_rfl)) rfl ?_
  · have := HX.out
    rw [World.size_alloc] at this
    exact this
  · exact ⟨rfl, HB.out⟩
theorem take_ok (g : Nat) (l : List Int) (A : Option Addr) (c : Nat) (W : World) (hb : W.heap[g]? = some (.cells #[.slice A l.length c, .int .i64 0] 152 (0, 0))) (n s k : Int) (z : Nat) (hz : z ≤ l.length) (hl : l.length ≤ 140737488355328) (B : Option Addr) (m q : Nat) :
    Calls Try.prog 140 #[.pointer (some ⟨g, 0, none⟩), .agg #[.int .u64 n, .int .i64 s, .slice B m q, .int .i64 (z : Int), .int .i64 k]] W fun e w' => e = .returned (.agg #[.int .u64 n, .int .i64 s, .slice B m q, .int .i64 (z : Int), .int .i64 k]) ∧
      ∃ A', A'.map (·.block) = A.map (·.block) ∧ w'.heap[g]? = some (.cells #[.slice A' (l.drop z).length (c - z), .int .i64 k] 152 (0, 0)) ∧ Fr W w' (fun k => k = g) ∧
        ∀ (w : World) (xs : List Int), l.length ≤ c → Kd.C (Kd.int .u8) w A l.length xs → Kd.C (Kd.int .u8) w A' (l.drop z).length (xs.drop z) := by
  have hlt := blk_lt hb
  have hu := Try.underlying81
  have hb0 := blk_alloc (blk_alloc hb (.cells #[.int .u64 n, .int .i64 s, .slice B m q, .int .i64 (z : Int), .int .i64 k] 81)) (.cells #[.int .u64 0, .int .i64 0, .slice none 0 0, .int .i64 0, .int .i64 0] 81)
  have c0 := (blk_cell hb0 0).trans rfl
  have c1 := (blk_cell hb0 1).trans rfl
  have z0 := blk_frozen hb0 0
  have z1 := blk_frozen hb0 1
  have hsz : (W.setCell ⟨g, 1, none⟩ (.int .i64 k)).heap.size = W.heap.size := by simp [World.setCell]
  have HB2 : Aside0 ((((W.setCell ⟨g, 1, none⟩ (.int .i64 k)).alloc (.cells #[.int .u64 n, .int .i64 s, .slice B m q, .int .i64 (z : Int), .int .i64 k] 81)).alloc (.cells #[.int .u64 0, .int .i64 0, .slice none 0 0, .int .i64 0, .int .i64 0] 81)).heap[g]? = some (.cells #[.slice A l.length c, .int .i64 k] 152 (0, 0))) := ⟨blk_alloc (blk_alloc (by simpa using blk_set hb 1 (.int .i64 k)) _) _⟩
  have HX2 : Aside0 (Box5 (((W.setCell ⟨g, 1, none⟩ (.int .i64 k)).alloc (.cells #[.int .u64 n, .int .i64 s, .slice B m q, .int .i64 (z : Int), .int .i64 k] 81)).alloc (.cells #[.int .u64 0, .int .i64 0, .slice none 0 0, .int .i64 0, .int .i64 0] 81)) W.heap.size n s (.slice B m q) z k) := ⟨blk_alloc (by have := blk_new (W.setCell ⟨g, 1, none⟩ (.int .i64 k)) (.cells #[.int .u64 n, .int .i64 s, .slice B m q, .int .i64 (z : Int), .int .i64 k] 81); rw [hsz] at this; exact this) _⟩
  have HY2 : Aside0 (Box5 (((W.setCell ⟨g, 1, none⟩ (.int .i64 k)).alloc (.cells #[.int .u64 n, .int .i64 s, .slice B m q, .int .i64 (z : Int), .int .i64 k] 81)).alloc (.cells #[.int .u64 0, .int .i64 0, .slice none 0 0, .int .i64 0, .int .i64 0] 81)) (W.heap.size + 1) 0 0 (.slice none 0 0) 0 0) := ⟨by have := blk_new ((W.setCell ⟨g, 1, none⟩ (.int .i64 k)).alloc (.cells #[.int .u64 n, .int .i64 s, .slice B m q, .int .i64 (z : Int), .int .i64 k] 81)) (.cells #[.int .u64 0, .int .i64 0, .slice none 0 0, .int .i64 0, .int .i64 0] 81); rw [World.size_alloc, hsz] at this; exact this⟩
  have HF2 : Aside0 (Fr W (((W.setCell ⟨g, 1, none⟩ (.int .i64 k)).alloc (.cells #[.int .u64 n, .int .i64 s, .slice B m q, .int .i64 (z : Int), .int .i64 k] 81)).alloc (.cells #[.int .u64 0, .int .i64 0, .slice none 0 0, .int .i64 0, .int .i64 0] 81)) (fun k => k = g)) := ⟨(((Fr.refl W (fun k => k = g)).setCell ⟨g, 1, none⟩ (.int .i64 k) (fun _ => rfl)).alloc _).alloc _⟩
  have hg : g < W.heap.size := hlt
  obtain ⟨A', hcut, hA', hR'⟩ := cut_ A l.length c z hz
  rw [← List.length_drop] at hR'
  have HCUT := Aside0.mk hR'
  have HA' := Aside0.mk hA'
  clear hA' hR' hb hb0 hsz
  go_enter Try.func140, Try.ntmps140
  go_wp2
  generalize (((W.setCell ⟨g, 1, none⟩ (.int .i64 k)).alloc (.cells #[.int .u64 n, .int .i64 s, .slice B m q, .int .i64 (z : Int), .int .i64 k] 81)).alloc (.cells #[.int .u64 0, .int .i64 0, .slice none 0 0, .int .i64 0, .int .i64 0] 81)) = W2 at *
  clear c0 c1 z0 z1
  have c0 := (blk_cell HB2.out 0).trans rfl
  have z0 := blk_frozen HB2.out 0
  obtain ⟨x0, x1, x2, x3, x4⟩ := HX2.out.cells
  obtain ⟨y0, y1, y2, y3, y4⟩ := HY2.out.cells
  have HB3 : Aside0 ((W2.setCell ⟨g, 0, none⟩ (.slice A' (l.length - z) (c - z))).drew.heap[g]? = some (.cells #[.slice A' (l.length - z) (c - z), .int .i64 k] 152 (0, 0))) := ⟨(blk_set HB2.out 0 (.slice A' (l.length - z) (c - z))).trans (by simp)⟩
  have HX3 := Aside0.mk (show Box5 (W2.setCell ⟨g, 0, none⟩ (.slice A' (l.length - z) (c - z))).drew W.heap.size n s (.slice B m q) z k from blk_far HX2.out (by show W.heap.size ≠ g; omega) _)
  have HY3 := Aside0.mk (show Box5 (W2.setCell ⟨g, 0, none⟩ (.slice A' (l.length - z) (c - z))).drew (W.heap.size + 1) 0 0 (.slice none 0 0) 0 0 from blk_far HY2.out (by show W.heap.size + 1 ≠ g; omega) _)
  have HF3 := Aside0.mk (HF2.out.setCell ⟨g, 0, none⟩ (.slice A' (l.length - z) (c - z)) (fun _ => rfl)).drew
  go_region
  generalize (W2.setCell ⟨g, 0, none⟩ (.slice A' (l.length - z) (c - z))).drew = W3 at *
  clear c0 z0 x0 x1 x2 x3 x4 y0 y1 y2 y3 y4
  obtain ⟨x0, x1, x2, x3, x4⟩ := HX3.out.cells
  obtain ⟨y0, y1, y2, y3, y4⟩ := HY3.out.cells
  have u0 := blk_frozen HY3.out 0
  have u1 := blk_frozen HY3.out 1
  have u2 := blk_frozen HY3.out 2
  have u3 := blk_frozen HY3.out 3
  have u4 := blk_frozen HY3.out 4
  have HY4 := Aside0.mk (HY3.out.set5 n s (z : Int) k (.slice B m q))
  have HF4 := Aside0.mk (HF3.out.far5 (b := W.heap.size + 1) (by omega) n s (z : Int) k (.slice B m q))
  have HB4 := Aside0.mk (blk_far (blk_far (blk_far (blk_far (blk_far HB3.out (p := ⟨W.heap.size + 1, 0, none⟩) (by show g ≠ W.heap.size + 1; omega) (.int .u64 n)) (p := ⟨W.heap.size + 1, 1, none⟩) (by show g ≠ W.heap.size + 1; omega) (.int .i64 s)) (p := ⟨W.heap.size + 1, 2, none⟩) (by show g ≠ W.heap.size + 1; omega) (.slice B m q)) (p := ⟨W.heap.size + 1, 3, none⟩) (by show g ≠ W.heap.size + 1; omega) (.int .i64 (z : Int))) (p := ⟨W.heap.size + 1, 4, none⟩) (by show g ≠ W.heap.size + 1; omega) (.int .i64 k))
  go_wp2
  refine bodyPost_ret (results_cell_row (fn := Try.f140) (p := 4) (ty := 81) rfl _ _ (W.heap.size + 1) 81 #[.int .u64 n, .int .i64 s, .slice B m q, .int .i64 (z : Int), .int .i64 k] (0, 0) _ rfl HY4.out Try.underlying81 rfl (by kernel_rfl)) rfl ?_
  refine ⟨rfl, A', HA'.out, ?_, HF4.out, HCUT.out⟩
  rw [List.length_drop]
  exact HB4.out
/-- RR: the calls. -/
theorem rUint_f (l : List Int) (f : Int) (hf : f ≠ 0) (k : Int) : rUint (l, f) k = (0, (l, f)) := by
  unfold rUint
  rw [rTake_f l f hf]
  split <;> rfl
theorem rNum_f (l : List Int) (f : Int) (hf : f ≠ 0) : rNum (l, f) = (0, (l, f)) := by
  unfold rNum
  rw [if_pos hf]
set_option maxRecDepth 100000 in
set_option maxHeartbeats 1000000 in
theorem RR.one {w0 W : World} {g : Nat} {s : List Int × Int} (h : RR w0 W g s) :
    Calls Try.prog 122 #[.pointer (some ⟨g, 0, none⟩)] W fun e w' => e = .returned (.int .i64 (rUint s 1).1) ∧ RR w0 w' g (rUint s 1).2 ∧ KeepG W w' g := by
  obtain ⟨s1, f⟩ := s
  obtain ⟨⟨l, A, c, hb, hlc, hC, hby, hl, hs⟩, hB, hg⟩ := h
  dsimp only at hb hs
  have c0 : W.cell? ⟨g, 0, none⟩ = some (.slice A l.length c) := (blk_cell hb 0).trans rfl
  have HRD := Aside0.mk (RD.uint A c l 1 W (Kd.C_below hC hB) hlc hby)
  have HB0 := Aside0.mk hb
  have HC := Aside0.mk hC
  have HBY := Aside0.mk hby
  have HB := Aside0.mk hB
  have HLC := Aside0.mk hlc
  have HG := Aside0.mk hg
  have HL := Aside0.mk hl
  by_cases hf : f = 0
  · subst hf
    obtain rfl := hs rfl
    have HG0 := got_read l ⟨1, 1, 0, 0, []⟩
    rw [show gotF (l, 0) ⟨1, 1, 0, 0, []⟩ = ((rUint (l, 0) 1).1, 0, [], (rUint (l, 0) 1).2) from rfl, show readF l ⟨1, 1, 0, 0, []⟩ = rdUint l 1 from rfl] at HG0
    obtain ⟨hv, hw, _, hfe, hz0, hz1, hd⟩ := HG0
    have HRG := rUint1_range (l, 0) hby
    have HRS := Aside0.mk HRG
    clear HRG hb hC hby hB hlc hg hl
    try dsimp only at *
    generalize rUint (l, 0) 1 = P at *
    generalize rdUint l 1 = T at *
    obtain ⟨pn, pl, pf⟩ := P
    obtain ⟨n, sg, raw, z, k⟩ := T
    try dsimp only at *
    obtain ⟨z, rfl⟩ := Int.eq_ofNat_of_zero_le hz0
    have HZ := Aside0.mk (show z ≤ l.length by omega)
    have HD := Aside0.mk hd
    obtain rfl := hv
    obtain rfl := hfe
    have hr0 := HRS.out.1
    have hr1 := HRS.out.2
    clear hd hz0 hz1
    go_enter Try.func122, Try.ntmps122
    go_wp2_with fail
    refine HRD.out.mono ?_
    rintro e w1 ⟨B, m, rfl, hq, hBA, hb1⟩
    have HB1 := Aside0.mk (show w1.heap[g]? = some (.cells #[.slice A l.length c, .int .i64 0] 152 (0, 0)) from (hb1.block _ (blk_lt HB0.out)).trans HB0.out)
    have HL1 := Aside0.mk hb1
    clear hq hBA hb1 c0
    have hfd : ∀ w : World, (Instr.field 81 (.agg #[.int .u64 pn, .int .i64 sg, .slice B raw.length m, .int .i64 (z : Int), .int .i64 pf]) 0).run Try.prog w = .ok (.int .u64 pn) w := fun _ => by kernel_rfl
    dsimp only
    go_wp2_with fail
    refine (take_ok g l A c w1 HB1.out _ _ _ z HZ.out HL.out B _ m).mono ?_
    rintro e w2 ⟨rfl, A', hA', hb2, hf2, hC2⟩
    have HB2 := Aside0.mk hb2
    have HF2 := Aside0.mk hf2
    have HC2 := Aside0.mk (hC2 w0 l HLC.out HC.out)
    clear hb2 hf2 hC2 hA'
    go_wp2
    go_ret
    refine ⟨rfl, ⟨⟨l.drop z, A', c - z, HB2.out, by have := HLC.out; rw [List.length_drop]; omega, HC2.out, HBY.out.drop z, by have := HL.out; rw [List.length_drop]; omega, fun h => (HD.out h).symm⟩, (below_then HB.out HB.out.size HL1.out).trans (HF2.out.below (Nat.le_trans HB.out.size HL1.out.size) (fun k hk => by rw [hk]; exact HG.out)), HG.out⟩, fun b o h hne => HF2.out.blk ((HL1.out.block _ (blk_lt h)).trans h) hne⟩
  · have hr : rUint (s1, f) 1 = (0, (s1, f)) := rUint_f s1 f hf 1
    rw [hr]
    have HF := Aside0.mk hf
    have HSS := Aside0.mk hs
    clear hr hb hC hby hB hlc hg hl hf hs
    generalize rdUint l 1 = T at *
    obtain ⟨n, sg, raw, z, k⟩ := T
    go_enter Try.func122, Try.ntmps122
    go_wp2_with fail
    refine HRD.out.mono ?_
    rintro e w1 ⟨B, m, rfl, hq, hBA, hb1⟩
    have HB1 := Aside0.mk (show w1.heap[g]? = some (.cells #[.slice A l.length c, .int .i64 f] 152 (0, 0)) from (hb1.block _ (blk_lt HB0.out)).trans HB0.out)
    have HL1 := Aside0.mk hb1
    clear hq hBA hb1 c0
    have hfd : ∀ w : World, (Instr.field 81 (.agg #[.int .u64 0, .int .i64 0, .slice none 0 0, .int .i64 0, .int .i64 0]) 0).run Try.prog w = .ok (.int .u64 0) w := fun _ => by kernel_rfl
    dsimp only
    go_wp2_with fail
    refine (take_fault g l A c f w1 HB1.out HF.out _ _ _ _ B _ m).mono ?_
    rintro e w2 ⟨rfl, hb2⟩
    have HL2 := Aside0.mk (Below.trans HL1.out (Below.mono hb2 HL1.out.size))
    clear hb2
    go_wp2
    go_ret
    exact ⟨rfl, ⟨⟨l, A, c, (HL2.out.block _ (blk_lt HB0.out)).trans HB0.out, HLC.out, HC.out, HBY.out, HL.out, HSS.out⟩, below_then HB.out HB.out.size HL2.out, HG.out⟩, fun b o h hne => (HL2.out.block _ (blk_lt h)).trans h⟩
set_option maxRecDepth 100000 in
set_option maxHeartbeats 1000000 in
theorem RR.num {w0 W : World} {g : Nat} {s : List Int × Int} (h : RR w0 W g s) :
    Calls Try.prog 123 #[.pointer (some ⟨g, 0, none⟩)] W fun e w' => e = .returned (.int .u64 (rNum s).1) ∧ RR w0 w' g (rNum s).2 ∧ KeepG W w' g := by
  obtain ⟨s1, f⟩ := s
  obtain ⟨⟨l, A, c, hb, hlc, hC, hby, hl, hs⟩, hB, hg⟩ := h
  dsimp only at hb hs
  have c0 : W.cell? ⟨g, 0, none⟩ = some (.slice A l.length c) := (blk_cell hb 0).trans rfl
  have HRD := Aside0.mk (RD.num A c l W (Kd.C_below hC hB) hlc hby hl)
  have HB0 := Aside0.mk hb
  have HC := Aside0.mk hC
  have HBY := Aside0.mk hby
  have HB := Aside0.mk hB
  have HLC := Aside0.mk hlc
  have HG := Aside0.mk hg
  have HL := Aside0.mk hl
  by_cases hf : f = 0
  · subst hf
    obtain rfl := hs rfl
    have HG0 := got_read l ⟨3, 0, 0, 0, []⟩
    rw [show gotF (l, 0) ⟨3, 0, 0, 0, []⟩ = ((rNum (l, 0)).1, 0, [], (rNum (l, 0)).2) from rfl, show readF l ⟨3, 0, 0, 0, []⟩ = fin3 l (numGo 10 0 0 l) from rfl] at HG0
    obtain ⟨hv, hw, _, hfe, hz0, hz1, hd⟩ := HG0
    have HRG := rNum_range (l, 0) hby
    have HRS := Aside0.mk HRG
    clear HRG hb hC hby hB hlc hg hl
    try dsimp only at *
    generalize rNum (l, 0) = P at *
    generalize fin3 l (numGo 10 0 0 l) = T at *
    obtain ⟨pn, pl, pf⟩ := P
    obtain ⟨n, sg, raw, z, k⟩ := T
    try dsimp only at *
    obtain ⟨z, rfl⟩ := Int.eq_ofNat_of_zero_le hz0
    have HZ := Aside0.mk (show z ≤ l.length by omega)
    have HD := Aside0.mk hd
    obtain rfl := hv
    obtain rfl := hfe
    clear hd hz0 hz1
    go_enter Try.func123, Try.ntmps123
    go_wp2_with fail
    refine HRD.out.mono ?_
    rintro e w1 ⟨B, m, rfl, hq, hBA, hb1⟩
    have HB1 := Aside0.mk (show w1.heap[g]? = some (.cells #[.slice A l.length c, .int .i64 0] 152 (0, 0)) from (hb1.block _ (blk_lt HB0.out)).trans HB0.out)
    have HL1 := Aside0.mk hb1
    clear hq hBA hb1 c0
    have hfd : ∀ w : World, (Instr.field 81 (.agg #[.int .u64 pn, .int .i64 sg, .slice B raw.length m, .int .i64 (z : Int), .int .i64 pf]) 0).run Try.prog w = .ok (.int .u64 pn) w := fun _ => by kernel_rfl
    dsimp only
    go_wp2_with fail
    refine (take_ok g l A c w1 HB1.out _ _ _ z HZ.out HL.out B _ m).mono ?_
    rintro e w2 ⟨rfl, A', hA', hb2, hf2, hC2⟩
    have HB2 := Aside0.mk hb2
    have HF2 := Aside0.mk hf2
    have HC2 := Aside0.mk (hC2 w0 l HLC.out HC.out)
    clear hb2 hf2 hC2 hA'
    go_wp2
    go_ret
    refine ⟨rfl, ⟨⟨l.drop z, A', c - z, HB2.out, by have := HLC.out; rw [List.length_drop]; omega, HC2.out, HBY.out.drop z, by have := HL.out; rw [List.length_drop]; omega, fun h => (HD.out h).symm⟩, (below_then HB.out HB.out.size HL1.out).trans (HF2.out.below (Nat.le_trans HB.out.size HL1.out.size) (fun k hk => by rw [hk]; exact HG.out)), HG.out⟩, fun b o h hne => HF2.out.blk ((HL1.out.block _ (blk_lt h)).trans h) hne⟩
  · have hr : rNum (s1, f) = (0, (s1, f)) := rNum_f s1 f hf
    rw [hr]
    have HF := Aside0.mk hf
    have HSS := Aside0.mk hs
    clear hr hb hC hby hB hlc hg hl hf hs
    generalize fin3 l (numGo 10 0 0 l) = T at *
    obtain ⟨n, sg, raw, z, k⟩ := T
    go_enter Try.func123, Try.ntmps123
    go_wp2_with fail
    refine HRD.out.mono ?_
    rintro e w1 ⟨B, m, rfl, hq, hBA, hb1⟩
    have HB1 := Aside0.mk (show w1.heap[g]? = some (.cells #[.slice A l.length c, .int .i64 f] 152 (0, 0)) from (hb1.block _ (blk_lt HB0.out)).trans HB0.out)
    have HL1 := Aside0.mk hb1
    clear hq hBA hb1 c0
    have hfd : ∀ w : World, (Instr.field 81 (.agg #[.int .u64 0, .int .i64 0, .slice none 0 0, .int .i64 0, .int .i64 0]) 0).run Try.prog w = .ok (.int .u64 0) w := fun _ => by kernel_rfl
    dsimp only
    go_wp2_with fail
    refine (take_fault g l A c f w1 HB1.out HF.out _ _ _ _ B _ m).mono ?_
    rintro e w2 ⟨rfl, hb2⟩
    have HL2 := Aside0.mk (Below.trans HL1.out (Below.mono hb2 HL1.out.size))
    clear hb2
    go_wp2
    go_ret
    exact ⟨rfl, ⟨⟨l, A, c, (HL2.out.block _ (blk_lt HB0.out)).trans HB0.out, HLC.out, HC.out, HBY.out, HL.out, HSS.out⟩, below_then HB.out HB.out.size HL2.out, HG.out⟩, fun b o h hne => (HL2.out.block _ (blk_lt h)).trans h⟩
set_option maxRecDepth 100000 in
set_option maxHeartbeats 1000000 in
theorem RR.int {w0 W : World} {g : Nat} {s : List Int × Int} (h : RR w0 W g s) :
    Calls Try.prog 124 #[.pointer (some ⟨g, 0, none⟩)] W fun e w' => e = .returned (.int .i64 (unzig (rUint s 8).1)) ∧ RR w0 w' g (rUint s 8).2 ∧ KeepG W w' g := by
  obtain ⟨s1, f⟩ := s
  obtain ⟨⟨l, A, c, hb, hlc, hC, hby, hl, hs⟩, hB, hg⟩ := h
  dsimp only at hb hs
  have c0 : W.cell? ⟨g, 0, none⟩ = some (.slice A l.length c) := (blk_cell hb 0).trans rfl
  have HRD := Aside0.mk (RD.int A c l W (Kd.C_below hC hB) hlc hby)
  have HB0 := Aside0.mk hb
  have HC := Aside0.mk hC
  have HBY := Aside0.mk hby
  have HB := Aside0.mk hB
  have HLC := Aside0.mk hlc
  have HG := Aside0.mk hg
  have HL := Aside0.mk hl
  by_cases hf : f = 0
  · subst hf
    obtain rfl := hs rfl
    have HG0 := got_read l ⟨2, 0, 0, 0, []⟩
    rw [show gotF (l, 0) ⟨2, 0, 0, 0, []⟩ = (0, unzig (rUint (l, 0) 8).1, [], (rUint (l, 0) 8).2) from rfl, show readF l ⟨2, 0, 0, 0, []⟩ = rdInt l from rfl] at HG0
    obtain ⟨hv, hw, _, hfe, hz0, hz1, hd⟩ := HG0
    have HRG := rUint_range (l, 0) 8 hby
    have HRS := Aside0.mk HRG
    clear HRG hb hC hby hB hlc hg hl
    try dsimp only at *
    generalize rUint (l, 0) 8 = P at *
    generalize rdInt l = T at *
    obtain ⟨pn, pl, pf⟩ := P
    obtain ⟨n, sg, raw, z, k⟩ := T
    try dsimp only at *
    obtain ⟨z, rfl⟩ := Int.eq_ofNat_of_zero_le hz0
    have HZ := Aside0.mk (show z ≤ l.length by omega)
    have HD := Aside0.mk hd
    obtain rfl := hw
    obtain rfl := hfe
    clear hd hz0 hz1
    go_enter Try.func124, Try.ntmps124
    go_wp2_with fail
    refine HRD.out.mono ?_
    rintro e w1 ⟨B, m, rfl, hq, hBA, hb1⟩
    have HB1 := Aside0.mk (show w1.heap[g]? = some (.cells #[.slice A l.length c, .int .i64 0] 152 (0, 0)) from (hb1.block _ (blk_lt HB0.out)).trans HB0.out)
    have HL1 := Aside0.mk hb1
    clear hq hBA hb1 c0
    have hfd : ∀ w : World, (Instr.field 81 (.agg #[.int .u64 n, .int .i64 (unzig pn), .slice B raw.length m, .int .i64 (z : Int), .int .i64 pf]) 1).run Try.prog w = .ok (.int .i64 (unzig pn)) w := fun _ => by kernel_rfl
    dsimp only
    go_wp2_with fail
    refine (take_ok g l A c w1 HB1.out _ _ _ z HZ.out HL.out B _ m).mono ?_
    rintro e w2 ⟨rfl, A', hA', hb2, hf2, hC2⟩
    have HB2 := Aside0.mk hb2
    have HF2 := Aside0.mk hf2
    have HC2 := Aside0.mk (hC2 w0 l HLC.out HC.out)
    clear hb2 hf2 hC2 hA'
    go_wp2
    go_ret
    refine ⟨rfl, ⟨⟨l.drop z, A', c - z, HB2.out, by have := HLC.out; rw [List.length_drop]; omega, HC2.out, HBY.out.drop z, by have := HL.out; rw [List.length_drop]; omega, fun h => (HD.out h).symm⟩, (below_then HB.out HB.out.size HL1.out).trans (HF2.out.below (Nat.le_trans HB.out.size HL1.out.size) (fun k hk => by rw [hk]; exact HG.out)), HG.out⟩, fun b o h hne => HF2.out.blk ((HL1.out.block _ (blk_lt h)).trans h) hne⟩
  · have hr : rUint (s1, f) 8 = (0, (s1, f)) := rUint_f s1 f hf 8
    rw [hr]
    have HF := Aside0.mk hf
    have HSS := Aside0.mk hs
    clear hr hb hC hby hB hlc hg hl hf hs
    generalize rdInt l = T at *
    obtain ⟨n, sg, raw, z, k⟩ := T
    go_enter Try.func124, Try.ntmps124
    go_wp2_with fail
    refine HRD.out.mono ?_
    rintro e w1 ⟨B, m, rfl, hq, hBA, hb1⟩
    have HB1 := Aside0.mk (show w1.heap[g]? = some (.cells #[.slice A l.length c, .int .i64 f] 152 (0, 0)) from (hb1.block _ (blk_lt HB0.out)).trans HB0.out)
    have HL1 := Aside0.mk hb1
    clear hq hBA hb1 c0
    have hfd : ∀ w : World, (Instr.field 81 (.agg #[.int .u64 0, .int .i64 0, .slice none 0 0, .int .i64 0, .int .i64 0]) 1).run Try.prog w = .ok (.int .i64 0) w := fun _ => by kernel_rfl
    dsimp only
    go_wp2_with fail
    refine (take_fault g l A c f w1 HB1.out HF.out _ _ _ _ B _ m).mono ?_
    rintro e w2 ⟨rfl, hb2⟩
    have HL2 := Aside0.mk (Below.trans HL1.out (Below.mono hb2 HL1.out.size))
    clear hb2
    go_wp2
    go_ret
    exact ⟨by show Ending.returned (.int .i64 0) = Ending.returned (.int .i64 (unzig 0)); rw [show unzig 0 = 0 by decide], ⟨⟨l, A, c, (HL2.out.block _ (blk_lt HB0.out)).trans HB0.out, HLC.out, HC.out, HBY.out, HL.out, HSS.out⟩, below_then HB.out HB.out.size HL2.out, HG.out⟩, fun b o h hne => (HL2.out.block _ (blk_lt h)).trans h⟩
end Go.Proofs.Ytalpemoodollpaa.P
/- Tokens: what is put, one behind the other, and read again. -/
namespace Go.Proofs.Ytalpemoodollpaa.P
open Go.RowKit Go.Proofs.YtalpemoodollpaaW.PrintWords Go.Proofs.YtalpemoodollpaaW.PrintLast Go.Proofs.YtalpemoodollpaaW.PrintMore
set_option linter.unusedVariables false
set_option linter.unusedSimpArgs false
inductive Tok where
  | one (x : Int)
  | num (n : Int)
  | int (n : Int)
namespace Tok
def form : Tok → List Int
  | one x => [x]
  | num n => numForm n.toNat
  | int n => intForm n
def next : Tok → List Int × Int → List Int × Int
  | one _, s => (rUint s 1).2
  | num _, s => (rNum s).2
  | int _, s => (rUint s 8).2
def ok : Tok → Prop
  | one _ => True
  | num n => 0 ≤ n ∧ n < 18446744073709551616
  | int n => -9223372036854775808 ≤ n ∧ n ≤ 9223372036854775807
end Tok
def flat (ts : List Tok) : List Int := ts.flatMap Tok.form
theorem flat_cons (t : Tok) (ts : List Tok) : flat (t :: ts) = t.form ++ flat ts := rfl
/-- A state that has too few bytes for these. -/
def Sh (ts : List Tok) (s : List Int × Int) : Prop := s.2 = 3 ∨ (s.2 = 0 ∧ ∃ m, m < (flat ts).length ∧ s.1 = (flat ts).take m)
theorem rUint_f' (s : List Int × Int) (hf : s.2 ≠ 0) (k : Int) : rUint s k = (0, s) := rUint_f s.1 s.2 hf k
theorem rNum_f' (s : List Int × Int) (hf : s.2 ≠ 0) : rNum s = (0, s) := rNum_f s.1 s.2 hf
theorem next_f (t : Tok) (s : List Int × Int) (hf : s.2 ≠ 0) : t.next s = s := by
  cases t
  · show (rUint s 1).2 = s; rw [rUint_f' s hf]
  · show (rNum s).2 = s; rw [rNum_f' s hf]
  · show (rUint s 8).2 = s; rw [rUint_f' s hf]
theorem rUint_byte (x : Int) (t : List Int) : rUint (x :: t, 0) 1 = (x, (t, 0)) := by
  unfold rUint
  rw [if_neg (by decide), show (1 : Int).toNat = 1 from rfl, rTake_one]
  simp [beNum]
theorem next_full (t : Tok) (h : t.ok) (rest : List Int) : t.next (t.form ++ rest, 0) = (rest, 0) := by
  cases t with
  | one x => show (rUint (x :: rest, 0) 1).2 = _; rw [rUint_byte]
  | num n =>
    show (rNum (numForm n.toNat ++ rest, 0)).2 = _
    have h1 := h.1
    have h2 := h.2
    rw [rNum_form n.toNat (by omega)]
  | int n => exact (intForm_read n h.1 h.2 rest).2
theorem next_short (t : Tok) (h : t.ok) (l : List Int) (m : Nat) (hm : m < t.form.length) (hl : l = t.form.take m) : (t.next (l, 0)).2 = 3 := by
  subst hl
  cases t with
  | one x =>
    have : m = 0 := by simp [Tok.form] at hm; omega
    subst this
    rfl
  | num n =>
    have h1 := h.1
    have h2 := h.2
    exact rNum_short n.toNat m (by omega) hm
  | int n =>
    show (rUint _ 8).2.2 = 3
    have hlen : ((intForm n).take m).length < 8 := by rw [List.length_take, intForm_length]; have : m < (intForm n).length := hm; rw [intForm_length] at this; omega
    rw [rUint_short _ 8 (by decide) (by decide) (by show (((intForm n).take m).length : Int) < 8; omega)]
theorem Sh.step {t : Tok} {ts : List Tok} {s : List Int × Int} (h : Sh (t :: ts) s) (hok : t.ok) : Sh ts (t.next s) := by
  obtain ⟨l, f⟩ := s
  rcases h with h | ⟨h, m, hm, hl⟩
  · have h' : f = 3 := h
    left
    rw [next_f t (l, f) (by show f ≠ 0; omega)]
    exact h'
  · have h' : f = 0 := h
    subst h'
    have hl : l = (flat (t :: ts)).take m := hl
    rw [flat_cons] at hm hl
    by_cases hmt : m < t.form.length
    · left
      refine next_short t hok l m hmt ?_
      rw [hl, List.take_append_of_le_length (by omega)]
    · right
      have e : l = t.form ++ (flat ts).take (m - t.form.length) := by
        rw [hl, List.take_append, List.take_of_length_le (by omega)]
      rw [e, next_full t hok]
      exact ⟨rfl, m - t.form.length, by rw [List.length_append] at hm; omega, rfl⟩
theorem Sh.nil {s : List Int × Int} (h : Sh [] s) : s.2 = 3 := by
  rcases h with h | ⟨_, m, hm, _⟩
  · exact h
  · simp [flat] at hm
theorem Sh.start (ts : List Tok) (m : Nat) (hm : m < (flat ts).length) : Sh ts ((flat ts).take m, 0) := .inr ⟨rfl, m, hm, rfl⟩
/-- A fault stays. -/
theorem keep_uint {s : List Int × Int} {k : Int} (h : (rUint s k).2.2 = 0) : s.2 = 0 := by
  apply Classical.byContradiction
  intro hf
  rw [rUint_f' s hf] at h
  exact hf h
theorem keep_num {s : List Int × Int} (h : (rNum s).2.2 = 0) : s.2 = 0 := by
  apply Classical.byContradiction
  intro hf
  rw [rNum_f' s hf] at h
  exact hf h
theorem byte_back {s : List Int × Int} (hb : Byt s.1) (h : (rUint s 1).2.2 = 0) : s.1 = (rUint s 1).1 :: (rUint s 1).2.1 := by
  obtain ⟨l, f⟩ := s
  obtain rfl : f = 0 := keep_uint h
  cases l with
  | nil => exact absurd h (by decide)
  | cons x t => rw [rUint_byte]
theorem num_back {s : List Int × Int} (hb : Byt s.1) (h : (rNum s).2.2 = 0) : s.1 = numForm (rNum s).1.toNat ++ (rNum s).2.1 := by
  obtain ⟨l, f⟩ := s
  obtain rfl : f = 0 := keep_num h
  obtain ⟨n, e1, e2, e3⟩ := rNum_back l hb h
  rw [e2, Int.toNat_natCast]
  exact e1
theorem int_back {s : List Int × Int} (hb : Byt s.1) (h : (rUint s 8).2.2 = 0) : s.1 = intForm (unzig (rUint s 8).1) ++ (rUint s 8).2.1 := by
  obtain ⟨l, f⟩ := s
  obtain rfl : f = 0 := keep_uint h
  exact (intForm_back l hb h).1
end Go.Proofs.Ytalpemoodollpaa.P
/- script.step: the next step of bytes. -/
namespace Go.Proofs.Ytalpemoodollpaa.P
open Go.RowKit Go.Proofs.YtalpemoodollpaaW.PrintWords Go.Proofs.YtalpemoodollpaaW.PrintLast Go.Proofs.YtalpemoodollpaaW.PrintMore
set_option linter.unusedVariables false
set_option linter.unusedSimpArgs false
/-- The state of script.step: the reader at g, the step's box at b. -/
structure SS (w W : World) (b g : Nat) (row : Option Nat) (s : List Int × Int) (x0 x1 x2 : Int) (v : Value) : Prop where
  rs : RS W g row s
  bx : W.heap[b]? = some (.cells #[.int .i64 x0, .int .i64 x1, .int .i64 x2, v] 91 (0, 0))
  fr : Fr w W (fun k => k = g)
  hb : w.heap.size ≤ b
  hg : g < w.heap.size
  hr : ∀ k, row = some k → k < w.heap.size
namespace SS
variable {w W W1 : World} {b g : Nat} {row : Option Nat} {s s1 : List Int × Int} {x0 x1 x2 : Int} {v : Value}
theorem call (h : SS w W b g row s x0 x1 x2 v) (hp : RPost W g row s1 W1) : SS w W1 b g row s1 x0 x1 x2 v :=
  ⟨hp.1, hp.2.blk h.bx (by have := h.hb; have := h.hg; omega), h.fr.trans hp.2 (fun _ _ hk => hk), h.hb, h.hg, h.hr⟩
theorem byt (h : SS w W b g row s x0 x1 x2 v) : Byt s.1 := by
  obtain ⟨A, c, _, _, _, _, _, hb⟩ := h.rs
  exact hb
theorem setAny (h : SS w W b g row s x0 x1 x2 v) (j : Nat) (u : Value) : RS (W.setCell ⟨b, j, none⟩ u) g row s ∧ Fr w (W.setCell ⟨b, j, none⟩ u) (fun k => k = g) :=
  ⟨h.rs.far (by have := h.hb; have := h.hg; omega) (fun e => by have := h.hr b e; have := h.hb; omega) u, h.fr.setCell ⟨b, j, none⟩ u (fun hl => absurd hl (by have := h.hb; show ¬ b < _; omega))⟩
theorem set0 (h : SS w W b g row s x0 x1 x2 v) (y : Int) : SS w (W.setCell ⟨b, 0, none⟩ (.int .i64 y)) b g row s y x1 x2 v := ⟨(h.setAny 0 _).1, (blk_set h.bx 0 (.int .i64 y)).trans (by simp), (h.setAny 0 _).2, h.hb, h.hg, h.hr⟩
theorem set1 (h : SS w W b g row s x0 x1 x2 v) (y : Int) : SS w (W.setCell ⟨b, 1, none⟩ (.int .i64 y)) b g row s x0 y x2 v := ⟨(h.setAny 1 _).1, (blk_set h.bx 1 (.int .i64 y)).trans (by simp), (h.setAny 1 _).2, h.hb, h.hg, h.hr⟩
theorem set2 (h : SS w W b g row s x0 x1 x2 v) (y : Int) : SS w (W.setCell ⟨b, 2, none⟩ (.int .i64 y)) b g row s x0 x1 y v := ⟨(h.setAny 2 _).1, (blk_set h.bx 2 (.int .i64 y)).trans (by simp), (h.setAny 2 _).2, h.hb, h.hg, h.hr⟩
theorem set3 (h : SS w W b g row s x0 x1 x2 v) (u : Value) : SS w (W.setCell ⟨b, 3, none⟩ u) b g row s x0 x1 x2 u := ⟨(h.setAny 3 _).1, (blk_set h.bx 3 u).trans (by simp), (h.setAny 3 _).2, h.hb, h.hg, h.hr⟩
theorem cells (h : SS w W b g row s x0 x1 x2 v) : W.cell? ⟨b, 0, none⟩ = some (.int .i64 x0) ∧ W.cell? ⟨b, 1, none⟩ = some (.int .i64 x1) ∧ W.cell? ⟨b, 2, none⟩ = some (.int .i64 x2) ∧ W.cell? ⟨b, 3, none⟩ = some v :=
  ⟨(blk_cell h.bx 0).trans rfl, (blk_cell h.bx 1).trans rfl, (blk_cell h.bx 2).trans rfl, (blk_cell h.bx 3).trans rfl⟩
theorem frozen (h : SS w W b g row s x0 x1 x2 v) : W.frozen? ⟨b, 0, none⟩ = false ∧ W.frozen? ⟨b, 1, none⟩ = false ∧ W.frozen? ⟨b, 2, none⟩ = false ∧ W.frozen? ⟨b, 3, none⟩ = false := ⟨blk_frozen h.bx 0, blk_frozen h.bx 1, blk_frozen h.bx 2, blk_frozen h.bx 3⟩
end SS
/-- What script.step tells and leaves: kind, symbol, number, frame, is it one, what is left. -/
def stepF (s : List Int × Int) : (Int × Int × Int × List Int) × Bool × (List Int × Int) :=
  if (rUint s 1).1 = 1 then (if 64 < (rNum (rUint s 1).2).1 then ((1, 0, 0, []), false, (rNum (rUint s 1).2).2) else ((1, 0, 0, (rTake (rNum (rUint s 1).2).2 (rNum (rUint s 1).2).1.toNat).1), true, (rTake (rNum (rUint s 1).2).2 (rNum (rUint s 1).2).1.toNat).2.2))
  else if (rUint s 1).1 = 4 then ((4, (rUint (rUint s 1).2 1).1, unzig (rUint (rUint (rUint s 1).2 1).2 8).1, []), true, (rUint (rUint (rUint s 1).2 1).2 8).2)
  else if (rUint s 1).1 = 2 ∨ (rUint s 1).1 = 3 then (((rUint s 1).1, 0, unzig (rUint (rUint s 1).2 8).1, []), true, (rUint (rUint s 1).2 8).2)
  else (((rUint s 1).1, 0, 0, []), false, (rUint s 1).2)
def StepPost (w : World) (g : Nat) (row : Option Nat) (T : (Int × Int × Int × List Int) × Bool × (List Int × Int)) (e : Ending) (w' : World) : Prop :=
  ∃ v, e = .returned (.tuple #[.agg #[.int .i64 T.1.1, .int .i64 T.1.2.1, .int .i64 T.1.2.2.1, v], .bool T.2.1]) ∧ Kd.R (Kd.int .u8) 5 w' w.heap.size (fun k => w.heap.size < k) v T.1.2.2.2 ∧ RPost w g row T.2.2 w'
theorem StepPost.nil {w W : World} {b g : Nat} {row : Option Nat} {s : List Int × Int} {x0 x1 x2 : Int} {is : Bool} (h : SS w W b g row s x0 x1 x2 (.slice none 0 0)) : StepPost w g row ((x0, x1, x2, []), is, s) (.returned (.tuple #[.agg #[.int .i64 x0, .int .i64 x1, .int .i64 x2, .slice none 0 0], .bool is])) W :=
  ⟨.slice none 0 0, rfl, Kd.R_nil _ _ _ _ _, h.rs, h.fr⟩
set_option maxRecDepth 100000 in
set_option maxHeartbeats 1000000 in
theorem scrStep_calls (g : Nat) (row : Option Nat) (s : List Int × Int) (w : World) (hs : RS w g row s) (hrow : ∀ k, row = some k → k < w.heap.size) :
    Calls Try.prog 107 #[.pointer (some ⟨g, 0, none⟩)] w (StepPost w g row (stepF s)) := by
  have hu91 := Try.underlying91
  have S0 := Aside0.mk (show SS w (w.alloc (.cells #[.int .i64 0, .int .i64 0, .int .i64 0, .slice none 0 0] 91)) w.heap.size g row s 0 0 0 (.slice none 0 0) from
    ⟨hs.below (below_alloc (Below.refl _ _) _), blk_new w _, (Fr.refl _ _).alloc _, Nat.le_refl _, hs.lt, hrow⟩)
  clear hs hrow
  generalize hG : stepF s = G
  unfold stepF at hG
  have HG := Aside0.mk hG
  clear hG
  go_enter Try.func107, Try.ntmps107
  go_wp2_with fail
  have CX := Aside0.mk (octets_Reader_Uint.calls g row s 1 _ S0.out.rs)
  have kr := Aside0.mk (rUint1_range s S0.out.byt)
  generalize rUint s 1 = T at *
  obtain ⟨k, s1⟩ := T
  try dsimp only at *
  refine CX.out.mono ?_
  rintro e w1 ⟨rfl, hp⟩
  have S1 := Aside0.mk (S0.out.call hp)
  have S2 := Aside0.mk (S1.out.set0 k)
  clear hp CX
  have k0 := kr.out.1
  have k255 := kr.out.2
  obtain ⟨c0, c1, c2, c3⟩ := S1.out.cells
  obtain ⟨z0, z1, z2, z3⟩ := S1.out.frozen
  obtain ⟨d0, d1, d2, d3⟩ := S2.out.cells
  obtain ⟨y0, y1, y2, y3⟩ := S2.out.frozen
  by_cases h1 : k = 1
  · subst h1
    rw [if_pos rfl] at HG
    go_wp2_with fail
    clear c0 c1 c2 c3 z0 z1 z2 z3 d0 d1 d2 d3 y0 y1 y2 y3
    have CX := Aside0.mk (octets_Reader_Num.calls g row s1 _ S2.out.rs)
    have nr := Aside0.mk (rNum_range s1 S2.out.byt)
    generalize rNum s1 = T at *
    obtain ⟨n, s2⟩ := T
    try dsimp only at *
    refine CX.out.mono ?_
    rintro e w2 ⟨rfl, hp⟩
    have S3 := Aside0.mk (S2.out.call hp)
    clear hp CX
    obtain ⟨c0, c1, c2, c3⟩ := S3.out.cells
    obtain ⟨z0, z1, z2, z3⟩ := S3.out.frozen
    by_cases h64 : 64 < n
    · rw [if_pos h64] at HG
      have SZ := Aside0.mk ((((S3.out.set0 (1)).set1 (0)).set2 (0)).set3 (.slice none 0 0))
      obtain rfl := HG.out
      go_wp2
      exact bodyPost_ret (results_ct (fn := Try.f107) (p := 2) (u := 3) (ty := 91) rfl _ _ w.heap.size 91 #[.int .i64 (1), .int .i64 (0), .int .i64 (0), .slice none 0 0] (0, 0) _ rfl SZ.out.bx Try.underlying91 rfl (by kernel_rfl)) rfl (StepPost.nil (is := false) SZ.out)
    · rw [if_neg h64] at HG
      have n0 := nr.out.1
      obtain ⟨n, rfl⟩ := Int.eq_ofNat_of_zero_le n0
      rw [Int.toNat_natCast] at HG
      have n64 : (n : Int) ≤ 64 := by omega
      have n64' : n ≤ 64 := by omega
      have CX := Aside0.mk (octets_Reader_Raw.calls g row s2 n _ (by omega) S3.out.rs)
      clear h64 n0
      go_wp2_with fail
      generalize rTake s2 n = T at *
      obtain ⟨fr, tb, s3⟩ := T
      try dsimp only at *
      refine CX.out.mono ?_
      rintro e w3 ⟨v, rfl, hR, hp⟩
      have HLT := Aside0.mk (show w.heap.size < w2.heap.size from blk_lt S3.out.bx)
      have HRR := Aside0.mk (Kd.R_lower (Kd.R_mono (Kd.R_bound hR) (ok' := fun k => w.heap.size < k) (fun k hk => by have := hk.2.1; have := HLT.out; omega)) (Nat.le_of_lt HLT.out) : Kd.R (Kd.int .u8) 5 w3 w.heap.size (fun k => w.heap.size < k) v fr)
      obtain ⟨X, m, rfl, hq, hC⟩ := Kd.R_reads hR
      have S4 := Aside0.mk (S3.out.call hp)
      clear hp hR hq hC CX c0 c1 c2 c3 z0 z1 z2 z3
      obtain ⟨c0, c1, c2, c3⟩ := S4.out.cells
      obtain ⟨z0, z1, z2, z3⟩ := S4.out.frozen
      have S5 := Aside0.mk (S4.out.set3 (.slice X fr.length m))
      obtain ⟨d0, d1, d2, d3⟩ := S5.out.cells
      obtain ⟨y0, y1, y2, y3⟩ := S5.out.frozen
      have SZ := Aside0.mk ((((S5.out.set0 (1)).set1 (0)).set2 (0)).set3 (.slice X fr.length m))
      have FRC := Aside0.mk (Kd.R_far (Kd.R_far (Kd.R_far (Kd.R_far (Kd.R_far HRR.out (p := ⟨w.heap.size, 3, none⟩) (fun k hk => by show k ≠ w.heap.size; omega) (.slice X fr.length m)) (p := ⟨w.heap.size, 0, none⟩) (fun k hk => by show k ≠ w.heap.size; omega) (.int .i64 1)) (p := ⟨w.heap.size, 1, none⟩) (fun k hk => by show k ≠ w.heap.size; omega) (.int .i64 0)) (p := ⟨w.heap.size, 2, none⟩) (fun k hk => by show k ≠ w.heap.size; omega) (.int .i64 0)) (p := ⟨w.heap.size, 3, none⟩) (fun k hk => by show k ≠ w.heap.size; omega) (.slice X fr.length m))
      obtain rfl := HG.out
      go_wp2
      exact bodyPost_ret (results_ct (fn := Try.f107) (p := 2) (u := 3) (ty := 91) rfl _ _ w.heap.size 91 #[.int .i64 (1), .int .i64 (0), .int .i64 (0), .slice X fr.length m] (0, 0) _ rfl SZ.out.bx Try.underlying91 rfl (by kernel_rfl)) rfl ⟨_, rfl, FRC.out, SZ.out.rs, SZ.out.fr⟩
  · rw [if_neg h1] at HG
    have h1b : (k == 1) = false := by simpa using h1
    clear h1
    by_cases h4 : k = 4
    · subst h4
      rw [if_pos rfl] at HG
      go_wp2_with fail
      clear c0 c1 c2 c3 z0 z1 z2 z3 d0 d1 d2 d3 y0 y1 y2 y3
      have CX := Aside0.mk (octets_Reader_Uint.calls g row s1 1 _ S2.out.rs)
      have syr := Aside0.mk (rUint1_range s1 S2.out.byt)
      generalize rUint s1 1 = T at *
      obtain ⟨sy, s2⟩ := T
      try dsimp only at *
      refine CX.out.mono ?_
      rintro e w2 ⟨rfl, hp⟩
      have S3 := Aside0.mk (S2.out.call hp)
      clear hp CX
      have sy0 := syr.out.1
      have sy1 := syr.out.2
      obtain ⟨c0, c1, c2, c3⟩ := S3.out.cells
      obtain ⟨z0, z1, z2, z3⟩ := S3.out.frozen
      have S4 := Aside0.mk (S3.out.set1 sy)
      obtain ⟨d0, d1, d2, d3⟩ := S4.out.cells
      obtain ⟨y0, y1, y2, y3⟩ := S4.out.frozen
      go_wp2_with fail
      clear c0 c1 c2 c3 z0 z1 z2 z3 d0 d1 d2 d3 y0 y1 y2 y3
      have CX := Aside0.mk (octets_Reader_Int.calls g row s2 _ S4.out.rs)
      generalize rUint s2 8 = T at *
      obtain ⟨nn, s3⟩ := T
      try dsimp only at *
      refine CX.out.mono ?_
      rintro e w3 ⟨rfl, hp⟩
      have S5 := Aside0.mk (S4.out.call hp)
      clear hp CX
      generalize unzig nn = nz at *
      obtain ⟨c0, c1, c2, c3⟩ := S5.out.cells
      obtain ⟨z0, z1, z2, z3⟩ := S5.out.frozen
      have S6 := Aside0.mk (S5.out.set2 nz)
      obtain ⟨d0, d1, d2, d3⟩ := S6.out.cells
      obtain ⟨y0, y1, y2, y3⟩ := S6.out.frozen
      have SZ := Aside0.mk ((((S6.out.set0 (4)).set1 (sy)).set2 (nz)).set3 (.slice none 0 0))
      obtain rfl := HG.out
      go_wp2
      exact bodyPost_ret (results_ct (fn := Try.f107) (p := 2) (u := 3) (ty := 91) rfl _ _ w.heap.size 91 #[.int .i64 (4), .int .i64 (sy), .int .i64 (nz), .slice none 0 0] (0, 0) _ rfl SZ.out.bx Try.underlying91 rfl (by kernel_rfl)) rfl (StepPost.nil (is := true) SZ.out)
    · rw [if_neg h4] at HG
      have h4b : (k == 4) = false := by simpa using h4
      clear h4
      by_cases h23 : k = 2 ∨ k = 3
      · rw [if_pos h23] at HG
        by_cases hk : k = 2
        · clear h23
          subst hk
          go_wp2_with fail
          clear c0 c1 c2 c3 z0 z1 z2 z3 d0 d1 d2 d3 y0 y1 y2 y3
          have CX := Aside0.mk (octets_Reader_Int.calls g row s1 _ S2.out.rs)
          generalize rUint s1 8 = T at *
          obtain ⟨nn, s3⟩ := T
          try dsimp only at *
          refine CX.out.mono ?_
          rintro e w3 ⟨rfl, hp⟩
          have S5 := Aside0.mk (S2.out.call hp)
          clear hp CX
          generalize unzig nn = nz at *
          obtain ⟨c0, c1, c2, c3⟩ := S5.out.cells
          obtain ⟨z0, z1, z2, z3⟩ := S5.out.frozen
          have S6 := Aside0.mk (S5.out.set2 nz)
          obtain ⟨d0, d1, d2, d3⟩ := S6.out.cells
          obtain ⟨y0, y1, y2, y3⟩ := S6.out.frozen
          have SZ := Aside0.mk ((((S6.out.set0 (2)).set1 (0)).set2 (nz)).set3 (.slice none 0 0))
          obtain rfl := HG.out
          go_wp2
          exact bodyPost_ret (results_ct (fn := Try.f107) (p := 2) (u := 3) (ty := 91) rfl _ _ w.heap.size 91 #[.int .i64 (2), .int .i64 (0), .int .i64 (nz), .slice none 0 0] (0, 0) _ rfl SZ.out.bx Try.underlying91 rfl (by kernel_rfl)) rfl (StepPost.nil (is := true) SZ.out)
        · replace hk : k = 3 := h23.resolve_left hk
          clear h23
          subst hk
          go_wp2_with fail
          clear c0 c1 c2 c3 z0 z1 z2 z3 d0 d1 d2 d3 y0 y1 y2 y3
          have CX := Aside0.mk (octets_Reader_Int.calls g row s1 _ S2.out.rs)
          generalize rUint s1 8 = T at *
          obtain ⟨nn, s3⟩ := T
          try dsimp only at *
          refine CX.out.mono ?_
          rintro e w3 ⟨rfl, hp⟩
          have S5 := Aside0.mk (S2.out.call hp)
          clear hp CX
          generalize unzig nn = nz at *
          obtain ⟨c0, c1, c2, c3⟩ := S5.out.cells
          obtain ⟨z0, z1, z2, z3⟩ := S5.out.frozen
          have S6 := Aside0.mk (S5.out.set2 nz)
          obtain ⟨d0, d1, d2, d3⟩ := S6.out.cells
          obtain ⟨y0, y1, y2, y3⟩ := S6.out.frozen
          have SZ := Aside0.mk ((((S6.out.set0 (3)).set1 (0)).set2 (nz)).set3 (.slice none 0 0))
          obtain rfl := HG.out
          go_wp2
          exact bodyPost_ret (results_ct (fn := Try.f107) (p := 2) (u := 3) (ty := 91) rfl _ _ w.heap.size 91 #[.int .i64 (3), .int .i64 (0), .int .i64 (nz), .slice none 0 0] (0, 0) _ rfl SZ.out.bx Try.underlying91 rfl (by kernel_rfl)) rfl (StepPost.nil (is := true) SZ.out)
      · rw [if_neg h23] at HG
        have h2b : (k == 2) = false := beq_false_of_ne (fun e => h23 (.inl e))
        have h3b : (k == 3) = false := beq_false_of_ne (fun e => h23 (.inr e))
        clear h23
        have SZ := Aside0.mk ((((S2.out.set0 (k)).set1 (0)).set2 (0)).set3 (.slice none 0 0))
        obtain rfl := HG.out
        go_wp2
        exact bodyPost_ret (results_ct (fn := Try.f107) (p := 2) (u := 3) (ty := 91) rfl _ _ w.heap.size 91 #[.int .i64 (k), .int .i64 (0), .int .i64 (0), .slice none 0 0] (0, 0) _ rfl SZ.out.bx Try.underlying91 rfl (by kernel_rfl)) rfl (StepPost.nil (is := false) SZ.out)
end Go.Proofs.Ytalpemoodollpaa.P
/- script.Read. -/
namespace Go.Proofs.Ytalpemoodollpaa.P
open Go.RowKit Go.Proofs.YtalpemoodollpaaW.PrintWords Go.Proofs.YtalpemoodollpaaW.PrintLast Go.Proofs.YtalpemoodollpaaW.PrintMore
set_option linter.unusedVariables false
set_option linter.unusedSimpArgs false
def stepVal (T : (Int × Int × Int × List Int) × Bool × (List Int × Int)) : S91 := ⟨T.1.1, T.1.2.1, T.1.2.2.1, T.1.2.2.2⟩
/-- The steps, from what is left on. -/
def scrGo : Nat → List Int × Int → List S91 → List S91 × Int
  | 0, s, acc => if s.2 ≠ 0 then ([], s.2) else if 0 < s.1.length then ([], 4) else (acc, 0)
  | k + 1, s, acc => if (stepF s).2.2.2 ≠ 0 then ([], (stepF s).2.2.2) else if (stepF s).2.1 = false then ([], 4) else scrGo k (stepF s).2.2 (acc ++ [stepVal (stepF s)])
def scrRead (bs : List Int) : List S91 × Int := if 2000 < (rNum (bs, 0)).1 then ([], 4) else scrGo (rNum (bs, 0)).1.toNat (rNum (bs, 0)).2 []
def ReadPost (w : World) (G : List S91 × Int) (e : Ending) (w' : World) : Prop :=
  ∃ v, e = .returned (.tuple #[v, .int .i64 G.2]) ∧ Kd.R k91 91 w' w.heap.size (fun _ => True) v G.1 ∧ Below w.heap.size w w'
theorem ReadPost.nil {w W : World} {f : Int} (h : Below w.heap.size w W) : ReadPost w ([], f) (.returned (.tuple #[.slice none 0 0, .int .i64 f])) W := ⟨_, rfl, Kd.R_nil _ _ _ _ _, h⟩
theorem rs_len {W : World} {g : Nat} {row : Option Nat} {s : List Int × Int} (h : RS W g row s) : s.1.length ≤ 9223372036854775807 := by
  obtain ⟨A, c, _, _, hC, _⟩ := h
  exact C_bound hC
set_option maxRecDepth 100000 in
set_option maxHeartbeats 2000000 in
theorem scrRead_calls (A0 : Option Addr) (c0 : Nat) (bs : List Int) (w : World) (hr0 : Kd.C (Kd.int .u8) w A0 bs.length bs) (hl : bs.length ≤ 140737488355328) (hb : Byt bs) :
    Calls Try.prog 51 #[.slice A0 bs.length c0] w (ReadPost w (scrRead bs)) := by
  have hu91 := Try.underlying91
  have HR := Aside0.mk hr0
  have HY := Aside0.mk hb
  clear hr0 hb
  generalize hG : scrRead bs = G
  unfold scrRead at hG
  have HG := Aside0.mk hG
  clear hG
  go_enter Try.func51, Try.ntmps51
  go_wp2_with fail
  go_step3
  go_wp2_with fail
  refine (octets_NewReader.calls2 A0 c0 bs w HR.out hl HY.out).mono ?_
  rintro e w1 ⟨g, row, rfl, hs, hb1, hg0, hg1, hrow⟩
  have RS1 := Aside0.mk hs
  have B1 := Aside0.mk hb1
  have HG0 := Aside0.mk hg0
  have HG1 := Aside0.mk hg1
  have HROW := Aside0.mk (show ∀ k, row = some k → w.heap.size ≤ k ∧ k < w1.heap.size from hrow)
  clear hs hb1 hg0 hg1 hrow
  go_wp2_with fail
  have CX := Aside0.mk (octets_Reader_Num.calls g row (bs, 0) w1 RS1.out)
  have nr := Aside0.mk (rNum_range (bs, 0) HY.out)
  generalize rNum (bs, 0) = T at *
  obtain ⟨n, s1⟩ := T
  try dsimp only at *
  refine CX.out.mono ?_
  rintro e w2 ⟨rfl, hp⟩
  have RS2 := Aside0.mk hp.1
  have B2 := Aside0.mk (B1.out.trans (hp.2.below B1.out.size (fun k hk => by rw [hk]; exact HG0.out)))
  have SZ2 := Aside0.mk hp.2.size
  clear hp CX
  by_cases hn : 2000 < n
  · rw [if_pos hn] at HG
    obtain rfl := HG.out
    go_wp2
    go_ret2
    exact ReadPost.nil B2.out
  · rw [if_neg hn] at HG
    have n0 := nr.out.1
    obtain ⟨n, rfl⟩ := Int.eq_ofNat_of_zero_le n0
    rw [Int.toNat_natCast] at HG
    have hn2 : (n : Int) ≤ 2000 := by omega
    clear hn n0
    go_wp2
    go_step3
    go_wp2
    go_loopw [2, 15] (fun u2 u15 wr => ∃ (j k : Nat) (s : List Int × Int) (acc : List S91), u15 = .int .u64 (j : Int) ∧ j + k = n ∧ acc.length = j ∧ Aside0 (scrGo k s acc = G) ∧ Aside0 (RS wr g row s) ∧ Aside0 (Kd.R k91 91 wr w1.heap.size (fun b => w1.heap.size ≤ b) u2 acc) ∧ Aside0 (Below w.heap.size w wr) ∧ Aside0 (w1.heap.size ≤ wr.heap.size)) (fun _ u15 _ => (n - (intOf u15).toNat))
    case atStart => exact ⟨0, n, s1, [], rfl, by omega, rfl, HG, RS2, ⟨Kd.R_nil _ _ _ _ _⟩, B2, SZ2⟩
    case round =>
      obtain ⟨j, k, s, acc, rfl, hjk, hacc, HS, HRS, HOUT, HB, HSZ⟩ := hrel
      by_cases hlt : j < n
      · obtain ⟨k, rfl⟩ : ∃ m, k = m + 1 := ⟨k - 1, by omega⟩
        have hs := HS.out
        rw [scrGo] at hs
        have HS2 := Aside0.mk hs
        have CX := Aside0.mk (scrStep_calls g row s wr HRS.out (fun b hb => by have := (HROW.out b hb).2; have := HSZ.out; omega))
        clear hs HS
        generalize stepF s = T at *
        obtain ⟨⟨x0, x1, x2, fr⟩, is, s2⟩ := T
        dsimp only [stepVal] at *
        go_wp2_with fail
        refine CX.out.mono ?_
        rintro e w3 ⟨v, rfl, hR, hp⟩
        dsimp only at hR hp ⊢
        obtain ⟨X, m, rfl⟩ := Kd.R_slice hR
        have HV3 := Aside0.mk hR
        have RS3 := Aside0.mk hp.1
        have OUT3 := Aside0.mk (Kd.R_step HOUT.out (w1 := w3) (fun b hb hlt => hp.2.block b hlt (by have := HG1.out; omega)))
        have B3 := Aside0.mk (HB.out.trans (hp.2.below HB.out.size (fun b hb => by rw [hb]; exact HG0.out)))
        have SZ3 := Aside0.mk (Nat.le_trans HSZ.out hp.2.size)
        have SW3 := Aside0.mk (show wr.heap.size ≤ w3.heap.size from hp.2.size)
        have OWN := Aside0.mk (show ∀ b, u2.ownBlock = some b → b < wr.heap.size from fun b hb => ((Kd.R_bound HOUT.out).1 b hb).2.2.1)
        have VLT := Aside0.mk (show ∀ b, (Value.slice X fr.length m).ownBlock = some b → b < w3.heap.size from fun b hb => ((Kd.R_bound hR).1 b hb).2.2.1)
        have RS4 := Aside0.mk (RS3.out.below (below_alloc (Below.refl _ _) (.cells #[.int .i64 x0, .int .i64 x1, .int .i64 x2, .slice X fr.length m] 91)))
        have OUT4 := Aside0.mk (Kd.R_alloc OUT3.out (.cells #[.int .i64 x0, .int .i64 x1, .int .i64 x2, .slice X fr.length m] 91))
        have HV4 := Aside0.mk (Kd.R_alloc HV3.out (.cells #[.int .i64 x0, .int .i64 x1, .int .i64 x2, .slice X fr.length m] 91))
        have B4 := Aside0.mk (below_alloc B3.out (.cells #[.int .i64 x0, .int .i64 x1, .int .i64 x2, .slice X fr.length m] 91))
        have BX4 := Aside0.mk (blk_new w3 (.cells #[.int .i64 x0, .int .i64 x1, .int .i64 x2, .slice X fr.length m] 91))
        have S4 := Aside0.mk (show w3.heap.size < (w3.alloc (.cells #[.int .i64 x0, .int .i64 x1, .int .i64 x2, .slice X fr.length m] 91)).heap.size by simp)
        clear hR hp HOUT HB HRS RS3 OUT3 HV3 CX
        obtain ⟨l2, f2⟩ := s2
        have FX := Aside0.mk (octets_Reader_Fault.calls g row (l2, f2) _ RS4.out)
        dsimp only at FX HS2
        by_cases hf : f2 = 0
        · subst hf
          rw [if_neg (by decide)] at HS2
          cases is with
          | false =>
            rw [if_pos rfl] at HS2
            obtain rfl := HS2.out
            go_wp2_with fail
            refine FX.out.mono ?_
            rintro e wf ⟨rfl, rfl⟩
            go_wp2
            rw [Exit.noGoto_ret]
            go_ret2
            exact ReadPost.nil B4.out
          | true =>
            rw [if_neg (by decide)] at HS2
            have OWN2 := Aside0.mk (show ∀ b, u2.ownBlock = some b → w1.heap.size ≤ b from fun b hb => OUT4.out.1 b hb)
            have SZ4 := Aside0.mk (Nat.le_trans SZ3.out (Nat.le_of_lt S4.out))
            obtain ⟨c0_, c1_, c2_, c3_⟩ : (w3.alloc (.cells #[.int .i64 x0, .int .i64 x1, .int .i64 x2, .slice X fr.length m] 91)).cell? ⟨w3.heap.size, 0, none⟩ = some (.int .i64 x0) ∧ (w3.alloc (.cells #[.int .i64 x0, .int .i64 x1, .int .i64 x2, .slice X fr.length m] 91)).cell? ⟨w3.heap.size, 1, none⟩ = some (.int .i64 x1) ∧ (w3.alloc (.cells #[.int .i64 x0, .int .i64 x1, .int .i64 x2, .slice X fr.length m] 91)).cell? ⟨w3.heap.size, 2, none⟩ = some (.int .i64 x2) ∧ (w3.alloc (.cells #[.int .i64 x0, .int .i64 x1, .int .i64 x2, .slice X fr.length m] 91)).cell? ⟨w3.heap.size, 3, none⟩ = some (.slice X fr.length m) := ⟨(blk_cell BX4.out 0).trans rfl, (blk_cell BX4.out 1).trans rfl, (blk_cell BX4.out 2).trans rfl, (blk_cell BX4.out 3).trans rfl⟩
            go_wp2_with fail
            refine FX.out.mono ?_
            rintro e wf ⟨rfl, rfl⟩
            dsimp only
            generalize hW4 : (w3.alloc (.cells #[.int .i64 x0, .int .i64 x1, .int .i64 x2, .slice X fr.length m] 91)) = W4 at *
            generalize hb3 : w3.heap.size = b3 at *
            clear hW4 hb3
            go_wp2_with (at_builtin; refine Kd.R_append k91 (w0 := W4) w1.heap.size rfl (.tmp 29) (.tmp 31) 54 91 _ 48 rfl Try.underlying54 info91 (by rfl) (by decide) (by decide) u2 acc ⟨x0, x1, x2, fr⟩ [.int .i64 x0, .int .i64 x1, .int .i64 x2, .slice X fr.length m] (fun b => w1.heap.size ≤ b) (fun b => wr.heap.size < b) rfl rfl (k91_mkM W4 w1.heap.size _ ⟨x0, x1, x2, fr⟩ (Kd.R_lower HV4.out HSZ.out)) (fun b hb => ⟨by have := HSZ.out; omega, fun e => by have := OWN.out b e.symm; omega⟩) (fun b hb => Nat.le_trans SZ4.out hb) OUT4.out (Below.refl _ _) SZ4.out (by omega) ?_; intro v1 w5 hR1 hB1 hg1 hat1; have OUT5 := Aside0.mk hR1; have FR5 := Aside0.mk ((Fr.refl W4 (fun k => u2.ownBlock = some k)).grown hg1 (fun k _ h => h)); have SZ5 := Aside0.mk (Nat.le_trans SZ4.out hg1.size); clear hR1 hB1 hg1 hat1)
            have RS5 := Aside0.mk (RS4.out.fr FR5.out (fun e => by have := OWN2.out g e; have := HG1.out; omega) (fun b hb e => by have := OWN2.out b e; have := (HROW.out b hb).2; omega))
            have B5 := Aside0.mk (B4.out.trans (FR5.out.below B4.out.size (fun b hb => Nat.le_trans B1.out.size (OWN2.out b hb))))
            go_roundw
            case rel => exact ⟨j + 1, k, (l2, 0), acc ++ [⟨x0, x1, x2, fr⟩], by go_num, by omega, by simp; omega, HS2, RS5, OUT5, B5, SZ5⟩
            case measure => simp [intOf]; omega
        · rw [if_pos hf] at HS2
          obtain rfl := HS2.out
          have hff : (f2 != 0) = true := by simpa using hf
          clear hf
          go_wp2_with fail
          refine FX.out.mono ?_
          rintro e wf ⟨rfl, rfl⟩
          go_wp2_with fail
          refine FX.out.mono ?_
          rintro e wf ⟨rfl, rfl⟩
          go_wp2
          rw [Exit.noGoto_ret]
          go_ret2
          exact ReadPost.nil B4.out
      · obtain rfl : k = 0 := by omega
        have hs := HS.out
        rw [scrGo] at hs
        have HS2 := Aside0.mk hs
        clear hs HS
        obtain ⟨l2, f2⟩ := s
        dsimp only at HS2
        have FX := Aside0.mk (octets_Reader_Fault.calls g row (l2, f2) _ HRS.out)
        have LX := Aside0.mk (octets_Reader_Left.calls g row (l2, f2) _ HRS.out)
        dsimp only at FX LX
        have hjn : n = j := by omega
        subst hjn
        by_cases hf : f2 = 0
        · subst hf
          rw [if_neg (by decide)] at HS2
          go_wp2_with fail
          refine FX.out.mono ?_
          rintro e wf ⟨rfl, rfl⟩
          go_wp2_with fail
          refine LX.out.mono ?_
          rintro e wf ⟨rfl, rfl⟩
          obtain ⟨lm, hlm⟩ : ∃ m : Int, (l2.length : Int) = m := ⟨_, rfl⟩
          rw [hlm]
          by_cases hl : 0 < lm
          · rw [if_pos (by omega)] at HS2
            obtain rfl := HS2.out
            go_wp2
            rw [Exit.noGoto_ret]
            go_ret2
            exact ReadPost.nil HB.out
          · rw [if_neg (by omega)] at HS2
            obtain rfl := HS2.out
            go_wp2
            rw [Exit.noGoto_ret]
            go_ret2
            exact ⟨_, rfl, Kd.R_lower (Kd.R_mono HOUT.out (fun _ _ => trivial)) B1.out.size, HB.out⟩
        · rw [if_pos hf] at HS2
          obtain rfl := HS2.out
          have hff : (f2 != 0) = true := by simpa using hf
          clear hf
          go_wp2_with fail
          refine FX.out.mono ?_
          rintro e wf ⟨rfl, rfl⟩
          go_wp2
          rw [Exit.noGoto_ret]
          go_ret2
          exact ReadPost.nil HB.out
end Go.Proofs.Ytalpemoodollpaa.P
