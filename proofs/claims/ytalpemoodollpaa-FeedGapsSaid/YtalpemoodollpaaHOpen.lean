/- What an input reads as: from a row's data down to the print's readings. -/
import Derived.Test.YtalpemoodollpaaHRow
import Derived.Test.YtalpemoodollpaaP0
import Derived.Deep.Slices
import Derived.Deep.Fields
namespace Go.Proofs.Ytalpemoodollpaa.P
open Go.RowKit Go.ChangeShapes Go.WideShapes Go.Deep Go.Proofs.YtalpemoodollpaaW.PrintWords Go.Proofs.YtalpemoodollpaaW.PrintLast Go.Proofs.YtalpemoodollpaaW.PrintMore
set_option linter.unusedVariables false
set_option linter.unusedSimpArgs false

/-- What reads as data of type t reads as the kind K, and has R. -/
def Opens {α : Type} (t : TypeId) (K : Kd α) (R : α → Prop) : Prop :=
  ∀ {H : Type} {enc : TypeId × Value → H} {w : World} {fuel : Nat} {cs : List Value} {x : DataW H × List MemPlace}, DataW.trod enc Try.prog w 0 (fun _ => true) true fuel t cs = some x → ∃ a, K.K w a cs ∧ R a

theorem opens_int {t : TypeId} {k : IntKind} (ht : Try.prog.underlying t = some (.int k)) : Opens t (Kd.int k) (fun n => (Lit.int k n).wf = true) := by
  intro H enc w fuel cs x h
  obtain ⟨n, rfl, _, hw⟩ := DataW.trod_int ht h
  exact ⟨n, rfl, hw⟩

theorem addr_add_add (a : Addr) (i j : Nat) : (a.add i).add j = a.add (i + j) := by
  unfold Addr.add
  by_cases hi : i = 0
  · subst hi; simp
  · by_cases hj : j = 0
    · subst hj; simp [hi]
    · simp [hi, hj, Nat.add_assoc]
theorem opens_slice {α : Type} [Inhabited α] {t e e' : TypeId} {K : Kd α} {R : α → Prop} (ht : Try.prog.underlying t = some (.slice e)) (hc : Try.prog.cellsOf e = K.sz) (he : Opens e K R) :
    Opens t (Kd.slice e' K) (fun xs => ∀ x ∈ xs, R x) := by
  intro H enc w fuel cs x h
  rcases open_slice ht h with ⟨rfl, _⟩ | ⟨a, len, cap, m, n, D, Pl, rfl, hb, hl, hm, hmm, rfl, hx⟩
  · exact ⟨[], ⟨none, 0, rfl, Nat.le_refl _, rfl, by simp, fun h => absurd h (by simp)⟩, by simp⟩
  · have hmm : m = cap := by simpa using hmm
    subst hmm
    have hall : ∀ i, i < len → ∃ v : α, R v ∧ ∃ c : List Value, c.length = K.sz ∧ K.K w v c ∧ ∀ j u, c[j]? = some u → w.cell? (a.add (i * K.sz + j)) = some u := by
      intro i hi
      obtain ⟨cs', h1, h2⟩ := hx i (by omega)
      obtain ⟨v, hv, hr⟩ := he h2
      rw [hc] at h1
      obtain ⟨_, hlen, hcell⟩ := World.cells?_some h1
      refine ⟨v, hr, cs', hlen, hv, fun j u hu => ?_⟩
      have hj : j < K.sz := by
        obtain ⟨hl, _⟩ := List.getElem?_eq_some_iff.1 hu
        omega
      have := hcell j hj
      rw [hu] at this
      rw [← this, addr_add_add]
    have : ∃ f : Nat → α, ∀ i, i < len → R (f i) ∧ ∃ c : List Value, c.length = K.sz ∧ K.K w (f i) c ∧ ∀ j u, c[j]? = some u → w.cell? (a.add (i * K.sz + j)) = some u := by
      exact choose_lt hall
    obtain ⟨f, hf⟩ := this
    refine ⟨(List.range len).map f, ⟨some a, m, by simp, by simpa using hl, rfl, by simp; unfold maxLen at hm; omega, fun _ => ⟨a, rfl, fun j p hj => ?_⟩⟩, ?_⟩
    · obtain ⟨hj1, hj2⟩ := List.getElem?_eq_some_iff.1 hj
      simp at hj1 hj2
      subst hj2
      exact (hf j hj1).2
    · intro y hy
      simp at hy
      obtain ⟨i, hi, rfl⟩ := hy
      exact (hf i hi).1

instance : Inhabited S29 := ⟨z29⟩
instance : Inhabited S49 := ⟨z49⟩
instance : Inhabited S91 := ⟨z91⟩
theorem opens_bytes : Opens 30 (Kd.slice 5 (Kd.int .u8)) (fun xs => ∀ y ∈ xs, (Lit.int .u8 y).wf = true) := opens_slice Try.underlying30 (by kernel_rfl) (opens_int Try.underlying5)
def WF29 (x : S29) : Prop := (Lit.int .i64 x.f0).wf = true ∧ (Lit.int .i64 x.f1).wf = true ∧ (Lit.int .i64 x.f2).wf = true ∧ (Lit.int .i64 x.f3).wf = true ∧ (Lit.int .i64 x.f4).wf = true ∧ (Lit.int .i64 x.f5).wf = true ∧ (Lit.int .i64 x.f6).wf = true ∧ (Lit.int .i64 x.f7).wf = true ∧ (Lit.int .i64 x.f8).wf = true
set_option maxRecDepth 100000 in
theorem opens_29 : Opens 29 k29 WF29 := by
  intro H enc w fuel cs x h
  obtain ⟨xs, n, _, _, hl, hlen, hf⟩ := DataW.trod_struct Try.underlying29 h
  have hc : Try.prog.cellsOf 29 = 9 := by kernel_rfl
  rw [hc] at hl
  have hs : xs.length = 9 := hlen
  clear hlen h
  match cs, hl with
  | [c0, c1, c2, c3, c4, c5, c6, c7, c8], _ =>
    match xs, hs with
    | [x0, x1, x2, x3, x4, x5, x6, x7, x8], _ =>
      have t0 : DataW.trod enc Try.prog w 0 (fun _ => true) true n 3 (([c0, c1, c2, c3, c4, c5, c6, c7, c8].drop 0).take (Try.prog.cellsOf 3)) = [x0, x1, x2, x3, x4, x5, x6, x7, x8][0]? := hf 0 _ rfl
      rw [show Try.prog.cellsOf 3 = 1 by kernel_rfl] at t0
      replace t0 : DataW.trod enc Try.prog w 0 (fun _ => true) true n 3 [c0] = some x0 := t0
      have t1 : DataW.trod enc Try.prog w 0 (fun _ => true) true n 3 (([c0, c1, c2, c3, c4, c5, c6, c7, c8].drop 1).take (Try.prog.cellsOf 3)) = [x0, x1, x2, x3, x4, x5, x6, x7, x8][1]? := hf 1 _ rfl
      rw [show Try.prog.cellsOf 3 = 1 by kernel_rfl] at t1
      replace t1 : DataW.trod enc Try.prog w 0 (fun _ => true) true n 3 [c1] = some x1 := t1
      have t2 : DataW.trod enc Try.prog w 0 (fun _ => true) true n 2 (([c0, c1, c2, c3, c4, c5, c6, c7, c8].drop 2).take (Try.prog.cellsOf 2)) = [x0, x1, x2, x3, x4, x5, x6, x7, x8][2]? := hf 2 _ rfl
      rw [show Try.prog.cellsOf 2 = 1 by kernel_rfl] at t2
      replace t2 : DataW.trod enc Try.prog w 0 (fun _ => true) true n 2 [c2] = some x2 := t2
      have t3 : DataW.trod enc Try.prog w 0 (fun _ => true) true n 2 (([c0, c1, c2, c3, c4, c5, c6, c7, c8].drop 3).take (Try.prog.cellsOf 2)) = [x0, x1, x2, x3, x4, x5, x6, x7, x8][3]? := hf 3 _ rfl
      rw [show Try.prog.cellsOf 2 = 1 by kernel_rfl] at t3
      replace t3 : DataW.trod enc Try.prog w 0 (fun _ => true) true n 2 [c3] = some x3 := t3
      have t4 : DataW.trod enc Try.prog w 0 (fun _ => true) true n 2 (([c0, c1, c2, c3, c4, c5, c6, c7, c8].drop 4).take (Try.prog.cellsOf 2)) = [x0, x1, x2, x3, x4, x5, x6, x7, x8][4]? := hf 4 _ rfl
      rw [show Try.prog.cellsOf 2 = 1 by kernel_rfl] at t4
      replace t4 : DataW.trod enc Try.prog w 0 (fun _ => true) true n 2 [c4] = some x4 := t4
      have t5 : DataW.trod enc Try.prog w 0 (fun _ => true) true n 2 (([c0, c1, c2, c3, c4, c5, c6, c7, c8].drop 5).take (Try.prog.cellsOf 2)) = [x0, x1, x2, x3, x4, x5, x6, x7, x8][5]? := hf 5 _ rfl
      rw [show Try.prog.cellsOf 2 = 1 by kernel_rfl] at t5
      replace t5 : DataW.trod enc Try.prog w 0 (fun _ => true) true n 2 [c5] = some x5 := t5
      have t6 : DataW.trod enc Try.prog w 0 (fun _ => true) true n 2 (([c0, c1, c2, c3, c4, c5, c6, c7, c8].drop 6).take (Try.prog.cellsOf 2)) = [x0, x1, x2, x3, x4, x5, x6, x7, x8][6]? := hf 6 _ rfl
      rw [show Try.prog.cellsOf 2 = 1 by kernel_rfl] at t6
      replace t6 : DataW.trod enc Try.prog w 0 (fun _ => true) true n 2 [c6] = some x6 := t6
      have t7 : DataW.trod enc Try.prog w 0 (fun _ => true) true n 2 (([c0, c1, c2, c3, c4, c5, c6, c7, c8].drop 7).take (Try.prog.cellsOf 2)) = [x0, x1, x2, x3, x4, x5, x6, x7, x8][7]? := hf 7 _ rfl
      rw [show Try.prog.cellsOf 2 = 1 by kernel_rfl] at t7
      replace t7 : DataW.trod enc Try.prog w 0 (fun _ => true) true n 2 [c7] = some x7 := t7
      have t8 : DataW.trod enc Try.prog w 0 (fun _ => true) true n 3 (([c0, c1, c2, c3, c4, c5, c6, c7, c8].drop 8).take (Try.prog.cellsOf 3)) = [x0, x1, x2, x3, x4, x5, x6, x7, x8][8]? := hf 8 _ rfl
      rw [show Try.prog.cellsOf 3 = 1 by kernel_rfl] at t8
      replace t8 : DataW.trod enc Try.prog w 0 (fun _ => true) true n 3 [c8] = some x8 := t8
      clear hf
      obtain ⟨a0, e0, r0⟩ := opens_int (k := .i64) Try.underlying3 t0
      injection e0 with e0 _
      subst e0
      obtain ⟨a1, e1, r1⟩ := opens_int (k := .i64) Try.underlying3 t1
      injection e1 with e1 _
      subst e1
      obtain ⟨a2, e2, r2⟩ := opens_int (k := .i64) Try.underlying2 t2
      injection e2 with e2 _
      subst e2
      obtain ⟨a3, e3, r3⟩ := opens_int (k := .i64) Try.underlying2 t3
      injection e3 with e3 _
      subst e3
      obtain ⟨a4, e4, r4⟩ := opens_int (k := .i64) Try.underlying2 t4
      injection e4 with e4 _
      subst e4
      obtain ⟨a5, e5, r5⟩ := opens_int (k := .i64) Try.underlying2 t5
      injection e5 with e5 _
      subst e5
      obtain ⟨a6, e6, r6⟩ := opens_int (k := .i64) Try.underlying2 t6
      injection e6 with e6 _
      subst e6
      obtain ⟨a7, e7, r7⟩ := opens_int (k := .i64) Try.underlying2 t7
      injection e7 with e7 _
      subst e7
      obtain ⟨a8, e8, r8⟩ := opens_int (k := .i64) Try.underlying3 t8
      injection e8 with e8 _
      subst e8
      exact ⟨⟨a0, a1, a2, a3, a4, a5, a6, a7, a8⟩, k29_mk w _, r0 , r1 , r2 , r3 , r4 , r5 , r6 , r7 , r8⟩
def WF49 (x : S49) : Prop := (Lit.int .i64 x.f0).wf = true ∧ (Lit.int .i64 x.f1).wf = true ∧ (Lit.int .u64 x.f2).wf = true ∧ (Lit.int .i64 x.f3).wf = true ∧ (∀ y ∈ x.f4, (Lit.int .u8 y).wf = true)
set_option maxRecDepth 100000 in
theorem opens_49 : Opens 49 k49 WF49 := by
  intro H enc w fuel cs x h
  obtain ⟨xs, n, _, _, hl, hlen, hf⟩ := DataW.trod_struct Try.underlying49 h
  have hc : Try.prog.cellsOf 49 = 5 := by kernel_rfl
  rw [hc] at hl
  have hs : xs.length = 5 := hlen
  clear hlen h
  match cs, hl with
  | [c0, c1, c2, c3, c4], _ =>
    match xs, hs with
    | [x0, x1, x2, x3, x4], _ =>
      have t0 : DataW.trod enc Try.prog w 0 (fun _ => true) true n 3 (([c0, c1, c2, c3, c4].drop 0).take (Try.prog.cellsOf 3)) = [x0, x1, x2, x3, x4][0]? := hf 0 _ rfl
      rw [show Try.prog.cellsOf 3 = 1 by kernel_rfl] at t0
      replace t0 : DataW.trod enc Try.prog w 0 (fun _ => true) true n 3 [c0] = some x0 := t0
      have t1 : DataW.trod enc Try.prog w 0 (fun _ => true) true n 3 (([c0, c1, c2, c3, c4].drop 1).take (Try.prog.cellsOf 3)) = [x0, x1, x2, x3, x4][1]? := hf 1 _ rfl
      rw [show Try.prog.cellsOf 3 = 1 by kernel_rfl] at t1
      replace t1 : DataW.trod enc Try.prog w 0 (fun _ => true) true n 3 [c1] = some x1 := t1
      have t2 : DataW.trod enc Try.prog w 0 (fun _ => true) true n 37 (([c0, c1, c2, c3, c4].drop 2).take (Try.prog.cellsOf 37)) = [x0, x1, x2, x3, x4][2]? := hf 2 _ rfl
      rw [show Try.prog.cellsOf 37 = 1 by kernel_rfl] at t2
      replace t2 : DataW.trod enc Try.prog w 0 (fun _ => true) true n 37 [c2] = some x2 := t2
      have t3 : DataW.trod enc Try.prog w 0 (fun _ => true) true n 2 (([c0, c1, c2, c3, c4].drop 3).take (Try.prog.cellsOf 2)) = [x0, x1, x2, x3, x4][3]? := hf 3 _ rfl
      rw [show Try.prog.cellsOf 2 = 1 by kernel_rfl] at t3
      replace t3 : DataW.trod enc Try.prog w 0 (fun _ => true) true n 2 [c3] = some x3 := t3
      have t4 : DataW.trod enc Try.prog w 0 (fun _ => true) true n 30 (([c0, c1, c2, c3, c4].drop 4).take (Try.prog.cellsOf 30)) = [x0, x1, x2, x3, x4][4]? := hf 4 _ rfl
      rw [show Try.prog.cellsOf 30 = 1 by kernel_rfl] at t4
      replace t4 : DataW.trod enc Try.prog w 0 (fun _ => true) true n 30 [c4] = some x4 := t4
      clear hf
      obtain ⟨a0, e0, r0⟩ := opens_int (k := .i64) Try.underlying3 t0
      injection e0 with e0 _
      subst e0
      obtain ⟨a1, e1, r1⟩ := opens_int (k := .i64) Try.underlying3 t1
      injection e1 with e1 _
      subst e1
      obtain ⟨a2, e2, r2⟩ := opens_int (k := .u64) Try.underlying37 t2
      injection e2 with e2 _
      subst e2
      obtain ⟨a3, e3, r3⟩ := opens_int (k := .i64) Try.underlying2 t3
      injection e3 with e3 _
      subst e3
      obtain ⟨a4, ⟨A4, cc4, e4, l4, g4⟩, r4⟩ := opens_bytes t4
      injection e4 with e4 _
      subst e4
      exact ⟨⟨a0, a1, a2, a3, a4⟩, k49_mk w _ l4 g4, r0 , r1 , r2 , r3 , r4⟩
def WF91 (x : S91) : Prop := (Lit.int .i64 x.f0).wf = true ∧ (Lit.int .i64 x.f1).wf = true ∧ (Lit.int .i64 x.f2).wf = true ∧ (∀ y ∈ x.f3, (Lit.int .u8 y).wf = true)
set_option maxRecDepth 100000 in
theorem opens_91 : Opens 91 k91 WF91 := by
  intro H enc w fuel cs x h
  obtain ⟨xs, n, _, _, hl, hlen, hf⟩ := DataW.trod_struct Try.underlying91 h
  have hc : Try.prog.cellsOf 91 = 4 := by kernel_rfl
  rw [hc] at hl
  have hs : xs.length = 4 := hlen
  clear hlen h
  match cs, hl with
  | [c0, c1, c2, c3], _ =>
    match xs, hs with
    | [x0, x1, x2, x3], _ =>
      have t0 : DataW.trod enc Try.prog w 0 (fun _ => true) true n 3 (([c0, c1, c2, c3].drop 0).take (Try.prog.cellsOf 3)) = [x0, x1, x2, x3][0]? := hf 0 _ rfl
      rw [show Try.prog.cellsOf 3 = 1 by kernel_rfl] at t0
      replace t0 : DataW.trod enc Try.prog w 0 (fun _ => true) true n 3 [c0] = some x0 := t0
      have t1 : DataW.trod enc Try.prog w 0 (fun _ => true) true n 3 (([c0, c1, c2, c3].drop 1).take (Try.prog.cellsOf 3)) = [x0, x1, x2, x3][1]? := hf 1 _ rfl
      rw [show Try.prog.cellsOf 3 = 1 by kernel_rfl] at t1
      replace t1 : DataW.trod enc Try.prog w 0 (fun _ => true) true n 3 [c1] = some x1 := t1
      have t2 : DataW.trod enc Try.prog w 0 (fun _ => true) true n 2 (([c0, c1, c2, c3].drop 2).take (Try.prog.cellsOf 2)) = [x0, x1, x2, x3][2]? := hf 2 _ rfl
      rw [show Try.prog.cellsOf 2 = 1 by kernel_rfl] at t2
      replace t2 : DataW.trod enc Try.prog w 0 (fun _ => true) true n 2 [c2] = some x2 := t2
      have t3 : DataW.trod enc Try.prog w 0 (fun _ => true) true n 30 (([c0, c1, c2, c3].drop 3).take (Try.prog.cellsOf 30)) = [x0, x1, x2, x3][3]? := hf 3 _ rfl
      rw [show Try.prog.cellsOf 30 = 1 by kernel_rfl] at t3
      replace t3 : DataW.trod enc Try.prog w 0 (fun _ => true) true n 30 [c3] = some x3 := t3
      clear hf
      obtain ⟨a0, e0, r0⟩ := opens_int (k := .i64) Try.underlying3 t0
      injection e0 with e0 _
      subst e0
      obtain ⟨a1, e1, r1⟩ := opens_int (k := .i64) Try.underlying3 t1
      injection e1 with e1 _
      subst e1
      obtain ⟨a2, e2, r2⟩ := opens_int (k := .i64) Try.underlying2 t2
      injection e2 with e2 _
      subst e2
      obtain ⟨a3, ⟨A3, cc3, e3, l3, g3⟩, r3⟩ := opens_bytes t3
      injection e3 with e3 _
      subst e3
      exact ⟨⟨a0, a1, a2, a3⟩, k91_mk w _ l3 g3, r0 , r1 , r2 , r3⟩
set_option maxRecDepth 100000 in
theorem opened_29 {H : Type} {enc : TypeId × Value → H} {w : World} {fuel : Nat} {cs : List Value} {x : DataW H × List MemPlace} (h : DataW.trod enc Try.prog w 0 (fun _ => true) true fuel 29 cs = some x) : ∃ a0 a1 a2 a3 a4 a5 a6 a7 a8 : Int, cs = [.int .i64 a0, .int .i64 a1, .int .i64 a2, .int .i64 a3, .int .i64 a4, .int .i64 a5, .int .i64 a6, .int .i64 a7, .int .i64 a8] ∧ (Lit.int .i64 a0).wf = true ∧ (Lit.int .i64 a1).wf = true ∧ (Lit.int .i64 a2).wf = true ∧ (Lit.int .i64 a3).wf = true ∧ (Lit.int .i64 a4).wf = true ∧ (Lit.int .i64 a5).wf = true ∧ (Lit.int .i64 a6).wf = true ∧ (Lit.int .i64 a7).wf = true ∧ (Lit.int .i64 a8).wf = true := by
  obtain ⟨xs, n, _, _, hl, hlen, hf⟩ := DataW.trod_struct Try.underlying29 h
  have hc : Try.prog.cellsOf 29 = 9 := by kernel_rfl
  rw [hc] at hl
  have hs : xs.length = 9 := hlen
  clear hlen h
  match cs, hl with
  | [c0, c1, c2, c3, c4, c5, c6, c7, c8], _ =>
    match xs, hs with
    | [x0, x1, x2, x3, x4, x5, x6, x7, x8], _ =>
      have t0 : DataW.trod enc Try.prog w 0 (fun _ => true) true n 3 (([c0, c1, c2, c3, c4, c5, c6, c7, c8].drop 0).take (Try.prog.cellsOf 3)) = [x0, x1, x2, x3, x4, x5, x6, x7, x8][0]? := hf 0 _ rfl
      rw [show Try.prog.cellsOf 3 = 1 by kernel_rfl] at t0
      replace t0 : DataW.trod enc Try.prog w 0 (fun _ => true) true n 3 [c0] = some x0 := t0
      have t1 : DataW.trod enc Try.prog w 0 (fun _ => true) true n 3 (([c0, c1, c2, c3, c4, c5, c6, c7, c8].drop 1).take (Try.prog.cellsOf 3)) = [x0, x1, x2, x3, x4, x5, x6, x7, x8][1]? := hf 1 _ rfl
      rw [show Try.prog.cellsOf 3 = 1 by kernel_rfl] at t1
      replace t1 : DataW.trod enc Try.prog w 0 (fun _ => true) true n 3 [c1] = some x1 := t1
      have t2 : DataW.trod enc Try.prog w 0 (fun _ => true) true n 2 (([c0, c1, c2, c3, c4, c5, c6, c7, c8].drop 2).take (Try.prog.cellsOf 2)) = [x0, x1, x2, x3, x4, x5, x6, x7, x8][2]? := hf 2 _ rfl
      rw [show Try.prog.cellsOf 2 = 1 by kernel_rfl] at t2
      replace t2 : DataW.trod enc Try.prog w 0 (fun _ => true) true n 2 [c2] = some x2 := t2
      have t3 : DataW.trod enc Try.prog w 0 (fun _ => true) true n 2 (([c0, c1, c2, c3, c4, c5, c6, c7, c8].drop 3).take (Try.prog.cellsOf 2)) = [x0, x1, x2, x3, x4, x5, x6, x7, x8][3]? := hf 3 _ rfl
      rw [show Try.prog.cellsOf 2 = 1 by kernel_rfl] at t3
      replace t3 : DataW.trod enc Try.prog w 0 (fun _ => true) true n 2 [c3] = some x3 := t3
      have t4 : DataW.trod enc Try.prog w 0 (fun _ => true) true n 2 (([c0, c1, c2, c3, c4, c5, c6, c7, c8].drop 4).take (Try.prog.cellsOf 2)) = [x0, x1, x2, x3, x4, x5, x6, x7, x8][4]? := hf 4 _ rfl
      rw [show Try.prog.cellsOf 2 = 1 by kernel_rfl] at t4
      replace t4 : DataW.trod enc Try.prog w 0 (fun _ => true) true n 2 [c4] = some x4 := t4
      have t5 : DataW.trod enc Try.prog w 0 (fun _ => true) true n 2 (([c0, c1, c2, c3, c4, c5, c6, c7, c8].drop 5).take (Try.prog.cellsOf 2)) = [x0, x1, x2, x3, x4, x5, x6, x7, x8][5]? := hf 5 _ rfl
      rw [show Try.prog.cellsOf 2 = 1 by kernel_rfl] at t5
      replace t5 : DataW.trod enc Try.prog w 0 (fun _ => true) true n 2 [c5] = some x5 := t5
      have t6 : DataW.trod enc Try.prog w 0 (fun _ => true) true n 2 (([c0, c1, c2, c3, c4, c5, c6, c7, c8].drop 6).take (Try.prog.cellsOf 2)) = [x0, x1, x2, x3, x4, x5, x6, x7, x8][6]? := hf 6 _ rfl
      rw [show Try.prog.cellsOf 2 = 1 by kernel_rfl] at t6
      replace t6 : DataW.trod enc Try.prog w 0 (fun _ => true) true n 2 [c6] = some x6 := t6
      have t7 : DataW.trod enc Try.prog w 0 (fun _ => true) true n 2 (([c0, c1, c2, c3, c4, c5, c6, c7, c8].drop 7).take (Try.prog.cellsOf 2)) = [x0, x1, x2, x3, x4, x5, x6, x7, x8][7]? := hf 7 _ rfl
      rw [show Try.prog.cellsOf 2 = 1 by kernel_rfl] at t7
      replace t7 : DataW.trod enc Try.prog w 0 (fun _ => true) true n 2 [c7] = some x7 := t7
      have t8 : DataW.trod enc Try.prog w 0 (fun _ => true) true n 3 (([c0, c1, c2, c3, c4, c5, c6, c7, c8].drop 8).take (Try.prog.cellsOf 3)) = [x0, x1, x2, x3, x4, x5, x6, x7, x8][8]? := hf 8 _ rfl
      rw [show Try.prog.cellsOf 3 = 1 by kernel_rfl] at t8
      replace t8 : DataW.trod enc Try.prog w 0 (fun _ => true) true n 3 [c8] = some x8 := t8
      clear hf
      obtain ⟨a0, e0, r0⟩ := opens_int (k := .i64) Try.underlying3 t0
      injection e0 with e0 _
      subst e0
      obtain ⟨a1, e1, r1⟩ := opens_int (k := .i64) Try.underlying3 t1
      injection e1 with e1 _
      subst e1
      obtain ⟨a2, e2, r2⟩ := opens_int (k := .i64) Try.underlying2 t2
      injection e2 with e2 _
      subst e2
      obtain ⟨a3, e3, r3⟩ := opens_int (k := .i64) Try.underlying2 t3
      injection e3 with e3 _
      subst e3
      obtain ⟨a4, e4, r4⟩ := opens_int (k := .i64) Try.underlying2 t4
      injection e4 with e4 _
      subst e4
      obtain ⟨a5, e5, r5⟩ := opens_int (k := .i64) Try.underlying2 t5
      injection e5 with e5 _
      subst e5
      obtain ⟨a6, e6, r6⟩ := opens_int (k := .i64) Try.underlying2 t6
      injection e6 with e6 _
      subst e6
      obtain ⟨a7, e7, r7⟩ := opens_int (k := .i64) Try.underlying2 t7
      injection e7 with e7 _
      subst e7
      obtain ⟨a8, e8, r8⟩ := opens_int (k := .i64) Try.underlying3 t8
      injection e8 with e8 _
      subst e8
      exact ⟨a0, a1, a2, a3, a4, a5, a6, a7, a8, rfl, r0, r1, r2, r3, r4, r5, r6, r7, r8⟩
set_option maxRecDepth 100000 in
theorem opened_95 {H : Type} {enc : TypeId × Value → H} {w : World} {fuel : Nat} {cs : List Value} {x : DataW H × List MemPlace} (h : DataW.trod enc Try.prog w 0 (fun _ => true) true fuel 95 cs = some x) : ∃ a0 a1 a2 a3 a4 a5 a6 a7 a8 : Int, cs = [.int .i64 a0, .int .i64 a1, .int .i64 a2, .int .i64 a3, .int .i64 a4, .int .i64 a5, .int .i64 a6, .int .i64 a7, .int .i64 a8] ∧ (Lit.int .i64 a0).wf = true ∧ (Lit.int .i64 a1).wf = true ∧ (Lit.int .i64 a2).wf = true ∧ (Lit.int .i64 a3).wf = true ∧ (Lit.int .i64 a4).wf = true ∧ (Lit.int .i64 a5).wf = true ∧ (Lit.int .i64 a6).wf = true ∧ (Lit.int .i64 a7).wf = true ∧ (Lit.int .i64 a8).wf = true := by
  obtain ⟨xs, n, _, _, hl, hlen, hf⟩ := DataW.trod_struct Try.underlying95 h
  have hc : Try.prog.cellsOf 95 = 9 := by kernel_rfl
  rw [hc] at hl
  have hs : xs.length = 9 := hlen
  clear hlen h
  match cs, hl with
  | [c0, c1, c2, c3, c4, c5, c6, c7, c8], _ =>
    match xs, hs with
    | [x0, x1, x2, x3, x4, x5, x6, x7, x8], _ =>
      have t0 : DataW.trod enc Try.prog w 0 (fun _ => true) true n 3 (([c0, c1, c2, c3, c4, c5, c6, c7, c8].drop 0).take (Try.prog.cellsOf 3)) = [x0, x1, x2, x3, x4, x5, x6, x7, x8][0]? := hf 0 _ rfl
      rw [show Try.prog.cellsOf 3 = 1 by kernel_rfl] at t0
      replace t0 : DataW.trod enc Try.prog w 0 (fun _ => true) true n 3 [c0] = some x0 := t0
      have t1 : DataW.trod enc Try.prog w 0 (fun _ => true) true n 3 (([c0, c1, c2, c3, c4, c5, c6, c7, c8].drop 1).take (Try.prog.cellsOf 3)) = [x0, x1, x2, x3, x4, x5, x6, x7, x8][1]? := hf 1 _ rfl
      rw [show Try.prog.cellsOf 3 = 1 by kernel_rfl] at t1
      replace t1 : DataW.trod enc Try.prog w 0 (fun _ => true) true n 3 [c1] = some x1 := t1
      have t2 : DataW.trod enc Try.prog w 0 (fun _ => true) true n 2 (([c0, c1, c2, c3, c4, c5, c6, c7, c8].drop 2).take (Try.prog.cellsOf 2)) = [x0, x1, x2, x3, x4, x5, x6, x7, x8][2]? := hf 2 _ rfl
      rw [show Try.prog.cellsOf 2 = 1 by kernel_rfl] at t2
      replace t2 : DataW.trod enc Try.prog w 0 (fun _ => true) true n 2 [c2] = some x2 := t2
      have t3 : DataW.trod enc Try.prog w 0 (fun _ => true) true n 3 (([c0, c1, c2, c3, c4, c5, c6, c7, c8].drop 3).take (Try.prog.cellsOf 3)) = [x0, x1, x2, x3, x4, x5, x6, x7, x8][3]? := hf 3 _ rfl
      rw [show Try.prog.cellsOf 3 = 1 by kernel_rfl] at t3
      replace t3 : DataW.trod enc Try.prog w 0 (fun _ => true) true n 3 [c3] = some x3 := t3
      have t4 : DataW.trod enc Try.prog w 0 (fun _ => true) true n 3 (([c0, c1, c2, c3, c4, c5, c6, c7, c8].drop 4).take (Try.prog.cellsOf 3)) = [x0, x1, x2, x3, x4, x5, x6, x7, x8][4]? := hf 4 _ rfl
      rw [show Try.prog.cellsOf 3 = 1 by kernel_rfl] at t4
      replace t4 : DataW.trod enc Try.prog w 0 (fun _ => true) true n 3 [c4] = some x4 := t4
      have t5 : DataW.trod enc Try.prog w 0 (fun _ => true) true n 3 (([c0, c1, c2, c3, c4, c5, c6, c7, c8].drop 5).take (Try.prog.cellsOf 3)) = [x0, x1, x2, x3, x4, x5, x6, x7, x8][5]? := hf 5 _ rfl
      rw [show Try.prog.cellsOf 3 = 1 by kernel_rfl] at t5
      replace t5 : DataW.trod enc Try.prog w 0 (fun _ => true) true n 3 [c5] = some x5 := t5
      have t6 : DataW.trod enc Try.prog w 0 (fun _ => true) true n 2 (([c0, c1, c2, c3, c4, c5, c6, c7, c8].drop 6).take (Try.prog.cellsOf 2)) = [x0, x1, x2, x3, x4, x5, x6, x7, x8][6]? := hf 6 _ rfl
      rw [show Try.prog.cellsOf 2 = 1 by kernel_rfl] at t6
      replace t6 : DataW.trod enc Try.prog w 0 (fun _ => true) true n 2 [c6] = some x6 := t6
      have t7 : DataW.trod enc Try.prog w 0 (fun _ => true) true n 2 (([c0, c1, c2, c3, c4, c5, c6, c7, c8].drop 7).take (Try.prog.cellsOf 2)) = [x0, x1, x2, x3, x4, x5, x6, x7, x8][7]? := hf 7 _ rfl
      rw [show Try.prog.cellsOf 2 = 1 by kernel_rfl] at t7
      replace t7 : DataW.trod enc Try.prog w 0 (fun _ => true) true n 2 [c7] = some x7 := t7
      have t8 : DataW.trod enc Try.prog w 0 (fun _ => true) true n 3 (([c0, c1, c2, c3, c4, c5, c6, c7, c8].drop 8).take (Try.prog.cellsOf 3)) = [x0, x1, x2, x3, x4, x5, x6, x7, x8][8]? := hf 8 _ rfl
      rw [show Try.prog.cellsOf 3 = 1 by kernel_rfl] at t8
      replace t8 : DataW.trod enc Try.prog w 0 (fun _ => true) true n 3 [c8] = some x8 := t8
      clear hf
      obtain ⟨a0, e0, r0⟩ := opens_int (k := .i64) Try.underlying3 t0
      injection e0 with e0 _
      subst e0
      obtain ⟨a1, e1, r1⟩ := opens_int (k := .i64) Try.underlying3 t1
      injection e1 with e1 _
      subst e1
      obtain ⟨a2, e2, r2⟩ := opens_int (k := .i64) Try.underlying2 t2
      injection e2 with e2 _
      subst e2
      obtain ⟨a3, e3, r3⟩ := opens_int (k := .i64) Try.underlying3 t3
      injection e3 with e3 _
      subst e3
      obtain ⟨a4, e4, r4⟩ := opens_int (k := .i64) Try.underlying3 t4
      injection e4 with e4 _
      subst e4
      obtain ⟨a5, e5, r5⟩ := opens_int (k := .i64) Try.underlying3 t5
      injection e5 with e5 _
      subst e5
      obtain ⟨a6, e6, r6⟩ := opens_int (k := .i64) Try.underlying2 t6
      injection e6 with e6 _
      subst e6
      obtain ⟨a7, e7, r7⟩ := opens_int (k := .i64) Try.underlying2 t7
      injection e7 with e7 _
      subst e7
      obtain ⟨a8, e8, r8⟩ := opens_int (k := .i64) Try.underlying3 t8
      injection e8 with e8 _
      subst e8
      exact ⟨a0, a1, a2, a3, a4, a5, a6, a7, a8, rfl, r0, r1, r2, r3, r4, r5, r6, r7, r8⟩
set_option maxRecDepth 100000 in
theorem open_arg29 {H : Type} {enc : TypeId × Value → H} {w : World} {r : Reach} {b0 : Nat} {v : Value} {d : DataW H} {ps : List MemPlace} (hval : Value.okWide Try.prog w r b0 29 v) (hd : DataW.Trod enc Try.prog w 0 (fun _ => true) true 29 v d ps) :
    ∃ a0 a1 a2 a3 a4 a5 a6 a7 a8 : Int, v = .agg #[.int .i64 a0, .int .i64 a1, .int .i64 a2, .int .i64 a3, .int .i64 a4, .int .i64 a5, .int .i64 a6, .int .i64 a7, .int .i64 a8] ∧ (Lit.int .i64 a0).wf = true ∧ (Lit.int .i64 a1).wf = true ∧ (Lit.int .i64 a2).wf = true ∧ (Lit.int .i64 a3).wf = true ∧ (Lit.int .i64 a4).wf = true ∧ (Lit.int .i64 a5).wf = true ∧ (Lit.int .i64 a6).wf = true ∧ (Lit.int .i64 a7).wf = true ∧ (Lit.int .i64 a8).wf = true := by
  have hv := hval
  unfold Value.okWide at hv
  rw [Try.underlying29] at hv
  obtain ⟨cs, rfl, _, _⟩ := hv
  obtain ⟨fuel, hf⟩ := hd
  obtain ⟨a0, a1, a2, a3, a4, a5, a6, a7, a8, hc, hw⟩ := opened_29 hf
  refine ⟨a0, a1, a2, a3, a4, a5, a6, a7, a8, ?_, hw⟩
  have : cs = #[.int .i64 a0, .int .i64 a1, .int .i64 a2, .int .i64 a3, .int .i64 a4, .int .i64 a5, .int .i64 a6, .int .i64 a7, .int .i64 a8] := by
    apply Array.toList_inj.1
    exact hc
  rw [this]
set_option maxRecDepth 100000 in
theorem open_arg95 {H : Type} {enc : TypeId × Value → H} {w : World} {r : Reach} {b0 : Nat} {v : Value} {d : DataW H} {ps : List MemPlace} (hval : Value.okWide Try.prog w r b0 95 v) (hd : DataW.Trod enc Try.prog w 0 (fun _ => true) true 95 v d ps) :
    ∃ a0 a1 a2 a3 a4 a5 a6 a7 a8 : Int, v = .agg #[.int .i64 a0, .int .i64 a1, .int .i64 a2, .int .i64 a3, .int .i64 a4, .int .i64 a5, .int .i64 a6, .int .i64 a7, .int .i64 a8] ∧ (Lit.int .i64 a0).wf = true ∧ (Lit.int .i64 a1).wf = true ∧ (Lit.int .i64 a2).wf = true ∧ (Lit.int .i64 a3).wf = true ∧ (Lit.int .i64 a4).wf = true ∧ (Lit.int .i64 a5).wf = true ∧ (Lit.int .i64 a6).wf = true ∧ (Lit.int .i64 a7).wf = true ∧ (Lit.int .i64 a8).wf = true := by
  have hv := hval
  unfold Value.okWide at hv
  rw [Try.underlying95] at hv
  obtain ⟨cs, rfl, _, _⟩ := hv
  obtain ⟨fuel, hf⟩ := hd
  obtain ⟨a0, a1, a2, a3, a4, a5, a6, a7, a8, hc, hw⟩ := opened_95 hf
  refine ⟨a0, a1, a2, a3, a4, a5, a6, a7, a8, ?_, hw⟩
  have : cs = #[.int .i64 a0, .int .i64 a1, .int .i64 a2, .int .i64 a3, .int .i64 a4, .int .i64 a5, .int .i64 a6, .int .i64 a7, .int .i64 a8] := by
    apply Array.toList_inj.1
    exact hc
  rw [this]
theorem opens_msgs : Opens 22 (Kd.slice 29 k29) (fun xs => ∀ x ∈ xs, WF29 x) := opens_slice Try.underlying22 (by kernel_rfl) opens_29
theorem opens_parts : Opens 45 (Kd.slice 49 k49) (fun xs => ∀ x ∈ xs, WF49 x) := opens_slice Try.underlying45 (by kernel_rfl) opens_49
theorem opens_steps : Opens 54 (Kd.slice 91 k91) (fun xs => ∀ x ∈ xs, WF91 x) := opens_slice Try.underlying54 (by kernel_rfl) opens_91
theorem opens_rows : Opens 62 (Kd.slice 30 (Kd.slice 5 (Kd.int .u8))) (fun xs => ∀ x ∈ xs, ∀ y ∈ x, (Lit.int .u8 y).wf = true) := opens_slice Try.underlying62 (by kernel_rfl) opens_bytes
theorem opens_ints : Opens 61 (Kd.slice 3 (Kd.int .i64)) (fun xs => ∀ x ∈ xs, (Lit.int .i64 x).wf = true) := opens_slice Try.underlying61 (by kernel_rfl) (opens_int Try.underlying3)
-- A slice that is handed in.
set_option maxRecDepth 100000 in
theorem open_arg_slice {α : Type} {t e e' : TypeId} {K : Kd α} {R : α → Prop} (ht : Try.prog.underlying t = some (.slice e)) (ho : Opens t (Kd.slice e' K) (fun xs => ∀ x ∈ xs, R x))
    {H : Type} {enc : TypeId × Value → H} {w : World} {r : Reach} {b0 : Nat} {v : Value} {d : DataW H} {ps : List MemPlace} (hval : Value.okWide Try.prog w r b0 t v) (hd : DataW.Trod enc Try.prog w 0 (fun _ => true) true t v d ps) :
    ∃ (A : Option Addr) (c : Nat) (xs : List α), v = .slice A xs.length c ∧ xs.length ≤ c ∧ K.C w A xs.length xs ∧ (∀ x ∈ xs, R x) ∧ ∀ y ∈ ps, y.block < w.heap.size := by
  obtain ⟨A, l, c, rfl⟩ := okWide_slice ht hval
  have hlt : ∀ y ∈ ps, y.block < w.heap.size := by obtain ⟨m, hm⟩ := hd; exact DataW.trod_lt m _ _ _ hm
  obtain ⟨fuel, hf⟩ := hd
  obtain ⟨xs, ⟨A', c', hc, hl, hC⟩, hr⟩ := ho hf
  simp [Value.cells] at hc
  obtain ⟨rfl, rfl, rfl⟩ := hc
  exact ⟨_, _, xs, rfl, hl, hC, hr, hlt⟩
end Go.Proofs.Ytalpemoodollpaa.P
