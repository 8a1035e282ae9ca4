/- Contracts and plain laws: HRange, HRefTakeIn, HframesP, HAll53, HEach, HRefTake, HOpen, P43, P45, HFrameLaw, HFrEach, HByt. -/
import Derived.RangeFuncFrom
import Derived.RangeFuncBound
import Derived.RangeFuncLeaves
import Derived.RangeFuncBox
import Derived.Deep.LoopGhost
import Derived.Deep.DeepCutAuto
import Derived.RangeFuncNested
import Derived.RangeFuncCalls
import Derived.Shelf.Abstract
import Derived.OwnWalkIn
import Derived.TacticsInMore
import Derived.LoopNIn
import Derived.LoopIn
import Derived.Deep.Slices
import Derived.Deep.Fields
import Derived.Shelf.RegionOpen
import Derived.RegionIn
import Derived.Test.YtalpemoodollpaaX1
/- A range over a function whose elements lie in memory: the iterator tells, of each element that it hands on, what holds of it in the world at hand (Pr).
   (The law is the library's wpIn_rangeFunc_ownF, turned: a premise Pr more; out of the library's own steps: wpIn_rangeFunc, run_yield, run_beginRound, run_endRound, run_endLoop.) -/
namespace Go.Proofs.Ytalpemoodollpaa.P
open Go Go.RowKit
set_option linter.unusedVariables false
variable {F : Fence} {n : Nat} {P : Program} {α : Type}
def SeqPr (F : Fence) (n : Nat) (P : Program) (g : Nat) (lb : Array Value) (encs : α → Array Value) (Pr : α → World → Prop) (Kp : World → World → Prop) (S Sp : List α → Prop) (N : Nat) (w : World) : Prop :=
  ∀ (l : Nat) (J Jx : List α → World → Prop) (W : World), Below w.heap.size w W → AbidesFrom W.heap.size J → AbidesFrom W.heap.size Jx →
    (∀ pre x W1, J pre W1 → Pr x W1 → Sp (pre ++ [x]) → pre.length < N → YieldAt F (n - 1) P l (encs x) W1 fun e W' =>
      (e = .returned (.bool true) ∧ J (pre ++ [x]) W' ∧ Kp W1 W') ∨ (e = .returned (.bool false) ∧ Jx (pre ++ [x]) W')) →
    J [] W → CallsIn F n P g (#[.func (.yield l) #[] #[]] ++ lb) W fun e W' => (∃ v, e = .returned v) ∧ ((∃ xs, S xs ∧ J xs W') ∨ (∃ pre, Sp pre ∧ Jx pre W'))
/-- A loop's record, and the block for its rounds' deferred calls, as they lie between two rounds. -/
structure Mark (W : World) (b : Nat) (o : Obj) : Prop where
  rec_ : W.heap[b + 1]? = some o
  defs : W.heap[b]? = some (.deferred (some []))
theorem Mark.kept {W W' : World} {b : Nat} {o : Obj} {row : Option Nat} (h : Mark W b o) (ho : ∃ L, o = .loop L) (hg : W.grownBy W' row) (hr : ∀ r, row = some r → ∃ o : Obj, W.heap[r]? = some o ∧ o.isWalk = true) : Mark W' b o := by
  obtain ⟨L, rfl⟩ := ho
  exact ⟨(grownBy_keeps hg hr h.rec_ rfl).trans h.rec_, (grownBy_keeps hg hr h.defs rfl).trans h.defs⟩
theorem Mark.put {W : World} {b : Nat} {o : Obj} (h : Mark W b o) (o' : Obj) : Mark (W.putObj (b + 1) o') b o' :=
  ⟨World.putObj_heap_same (Array.getElem?_eq_some_iff.1 h.rec_).1, (World.putObj_heap_other (by omega)).trans h.defs⟩
theorem wpIn_rangeFunc_pr {g : Operand} {ps : Array Tmp} {assign body : Code} {Q : Exit → Act → World → Prop} {a : Act} {w : World}
    (hro : F.round = none) (h1 : 1 ≤ n) {gf : Nat} {lb : Array Value} (hg : a.eval g = .func (.func gf) #[] lb) (hFg : F.fn gf) (eg : ∀ args w, (callFunc gf args).run P w = .ok (.enter gf args) w)
    {encs : α → Array Value} {Pr : α → World → Prop} {Kp : World → World → Prop} {S Sp : List α → Prop} {N : Nat} {w0 : World} (hseq : SeqPr F (n - 1) P gf lb encs Pr Kp S Sp N w0)
    (hPr : ∀ (x : α) (W : World) (l : Nat) (o o' : Obj), Pr x W → W.heap[l]? = some o → o.isCells = false → Pr x (W.putObj l o'))
    (hKt : ∀ {A B C : World}, Kp A B → Kp B C → Kp A C) (hKb : ∀ (W : World) (l : Nat) (o o' : Obj), w.heap.size ≤ l → W.heap[l]? = some o → o.isCells = false → o.isWalk = false → Kp W (W.putObj l o')) (hb0 : Below w0.heap.size w0 w) (hps : ∀ x, (encs x).size = ps.size)
    (I : List α → World → Prop) (Ix : Code → List α → World → Prop) (hI : OwnFrom w.heap.size I) (hIx : ∀ c, OwnFrom w.heap.size (Ix c)) (h0 : I [] w) (a₁ : α → Act)
    (hassign : ∀ (l : Nat) (x : α) (W : World) (K : Act → World → Prop), K (a₁ x) W →
      assign.wpIn (F.inRound l) (n - 1 - 1) P (Exit.then K (fun _ _ _ => False)) { tmps := (ps.zip (encs x)).foldl (fun t (p, v) => t.setIfInBounds p v) a.tmps, defers := [] } W)
    (hbody : ∀ (l : Nat) (pre : List α) (x : α) (W : World), I pre W → Pr x W → Sp (pre ++ [x]) → pre.length < N → body.wpIn (F.inRound l) (n - 1 - 1) P (ownPostK Kp I Ix (pre ++ [x]) W) (a₁ x) W)
    (hdone : ∀ (D : Nat) (xs : List α) (W : World), w.heap.size ≤ D → S xs → I xs W → W.heap[D]? = some (.deferred (some [])) → Q .normal { a with defers := { target := .collected D, args := #[] } :: a.defers } W)
    (hstop : ∀ (D : Nat) (c : Code) (pre : List α) (W : World), w.heap.size ≤ D → Sp pre → Ix c pre W → W.heap[D]? = some (.deferred (some [])) → c.wpIn F n P Q { a with defers := { target := .collected D, args := #[] } :: a.defers } W) :
    (Code.rangeFunc g ps assign body).wpIn F n P Q a w := by
  refine wpIn_rangeFunc ?_
  intro fn hfn
  rw [hro]
  let rc : LoopState → Option Code → Loop := fun st pe => { state := st, pending := pe, fn, tmps := a.tmps, params := ps, assign, body, defers := w.heap.size }
  obtain ⟨W1, hW1⟩ : ∃ W1, (w.alloc (.deferred (some []))).alloc (.loop (rc .ready none)) = W1 := ⟨_, rfl⟩
  have M1 : Mark W1 w.heap.size (.loop (rc .ready none)) := by
    rw [← hW1]
    refine ⟨?_, (Below.heap_alloc _ _ _ (by simp)).trans (World.alloc_heap_new w _)⟩
    have h := World.alloc_heap_new (w.alloc (.deferred (some []))) (.loop (rc .ready none))
    rwa [World.size_alloc] at h
  have hS1 : W1.heap.size = w.heap.size + 1 + 1 := by rw [← hW1]; simp
  have hI1 : I [] W1 := by rw [← hW1]; exact hI.alloc _ (hI.alloc _ h0)
  have hB1 : Below w0.heap.size w0 W1 := by
    rw [← hW1]
    exact hb0.trans ((((Below.refl _ w).alloc (Nat.le_refl _) _).alloc (by simp) _).mono hb0.size)
  have walk : ∀ {A : World} {row : Option Nat}, (∀ r, row = some r → W1.heap.size ≤ r ∧ ∃ o : Obj, A.heap[r]? = some o ∧ o.isWalk = true) → ∀ r, row = some r → w.heap.size ≤ r ∧ ∃ o : Obj, A.heap[r]? = some o ∧ o.isCells = false :=
    fun hr r e => by
      obtain ⟨hb, o, ho, hw⟩ := hr r e
      exact ⟨by omega, o, ho, Obj.not_cells_of_walk hw⟩
  refine ⟨w.heap.size + 1, [{ target := .collected w.heap.size, args := #[] }], W1, { target := .fn (.func gf) lb, args := #[.func (.yield (w.heap.size + 1)) #[] #[]] }, W1, gf,
    #[.func (.yield (w.heap.size + 1)) #[] #[]] ++ lb, W1, ?_, ?_, ?_, ?_, fun _ => h1, ?_⟩
  · rw [← hW1]
    exact run_enterLoop_outer _ _ _ _ _
  · simp only [resolve, hg]
    simp [go_sem]
  · intro f' hf'
    simp [Target.leads] at hf'
    subst hf'
    exact hFg
  · simp [invoke, go_sem, eg]
  · refine (hseq (w.heap.size + 1) (fun pre W => I pre W ∧ Mark W w.heap.size (.loop (rc .ready none))) (fun pre W => ∃ c, Ix c pre W ∧ Mark W w.heap.size (.loop (rc .done (some c)))) W1 hB1
      (fun s A B row hs hg' hr => ⟨hI s A B row hs.1 hg' (walk (A := A) hr), hs.2.kept ⟨_, rfl⟩ hg' (fun r e => (hr r e).2)⟩)
      (fun s A B row hs hg' hr => by
        obtain ⟨c, hc, hm⟩ := hs
        exact ⟨c, hIx c s A B row hc hg' (walk (A := A) hr), hm.kept ⟨_, rfl⟩ hg' (fun r e => (hr r e).2)⟩)
      ?_ ⟨hI1, M1⟩).mono ?_
    · rintro pre x W ⟨hi, hm⟩ hpx hsp hlen
      have hy := run_yield (P := P) (args := encs x) hm.rec_ (hps x)
      refine ⟨fn, _, assign, body, hy, roundIn_of_wpIn hfn (hassign _ x W _ ⟨_, run_beginRound hm.rec_ rfl, ?_⟩)⟩
      have m2 := hm.put (.loop { rc .ready none with state := .busy })
      have k2 : Kp W (W.putObj (w.heap.size + 1) (.loop { rc .ready none with state := .busy })) := hKb _ _ _ _ (by omega) hm.rec_ rfl rfl
      refine wpIn_mono (hbody _ pre x _ (hI.putObj _ hi (by omega) hm.rec_ rfl) (hPr _ _ _ _ _ hpx hm.rec_ rfl) hsp hlen) ?_
      have fin : ∀ (jump : Option Code) (W3 : World), KeepsOthers (W.putObj (w.heap.size + 1) (.loop { rc .ready none with state := .busy })) W3 →
          (Instr.endRound (w.heap.size + 1) jump).run P W3 = .ok (.bool jump.isNone) (W3.putObj (w.heap.size + 1) (.loop (rc (if jump.isNone then .ready else .done) jump))) ∧ Mark W3 w.heap.size (.loop { rc .ready none with state := .busy }) :=
        fun jump W3 hk => ⟨run_endRound (P := P) jump (hk.same _ _ m2.rec_ rfl), hk.same _ _ m2.rec_ rfl, hk.same _ _ m2.defs rfl⟩
      rintro e a3 W3 hp
      cases e with
      | normal =>
        obtain ⟨hk, hkp, hi3⟩ := hp
        obtain ⟨hr, m3⟩ := fin none W3 hk
        exact ⟨_, _, hr, .inl ⟨rfl, ⟨hI.putObj _ hi3 (by omega) m3.rec_ rfl, m3.put _⟩, hKt (hKt k2 hkp) (hKb _ _ _ _ (by omega) m3.rec_ rfl rfl)⟩⟩
      | ret =>
        obtain ⟨hk, hi3⟩ := hp
        obtain ⟨hr, m3⟩ := fin (some .ret) W3 hk
        exact ⟨_, _, hr, .inr ⟨rfl, .ret, (hIx _).putObj _ hi3 (by omega) m3.rec_ rfl, m3.put _⟩⟩
      | exit id =>
        obtain ⟨hk, hi3⟩ := hp
        obtain ⟨hr, m3⟩ := fin (some (.exit id)) W3 hk
        exact ⟨_, _, hr, .inr ⟨rfl, .exit id, (hIx _).putObj _ hi3 (by omega) m3.rec_ rfl, m3.put _⟩⟩
      | goto t =>
        obtain ⟨hk, hi3⟩ := hp
        obtain ⟨hr, m3⟩ := fin (some (.goto t)) W3 hk
        exact ⟨_, _, hr, .inr ⟨rfl, .goto t, (hIx _).putObj _ hi3 (by omega) m3.rec_ rfl, m3.put _⟩⟩
      | panic ch => exact hp.elim
      | outgrown => exact hp.elim
    · rintro e W2 ⟨⟨v, rfl⟩, (⟨xs, hS, hi, hm⟩ | ⟨pre, hSp, c, hi, hm⟩)⟩
      · exact ⟨none, _, run_endLoop (P := P) hm.rec_ (by simp [rc]), hdone _ xs _ (Nat.le_refl _) hS (hI.putObj _ hi (by omega) hm.rec_ rfl) (hm.put _).defs⟩
      · exact ⟨some c, _, run_endLoop (P := P) hm.rec_ (by simp [rc]), hstop _ c pre _ (Nat.le_refl _) hSp ((hIx c).putObj _ hi (by omega) hm.rec_ rfl) (hm.put _).defs⟩
end Go.Proofs.Ytalpemoodollpaa.P
/- damperref04.Take: its payload lies in the bytes that it was given. -/
namespace Go.Proofs.Ytalpemoodollpaa.P
open Go.RowKit Go.Proofs.YtalpemoodollpaaW.PrintWords Go.Proofs.YtalpemoodollpaaW.PrintLast Go.Proofs.YtalpemoodollpaaW.PrintMore
set_option linter.unusedVariables false
set_option linter.unusedSimpArgs false
set_option maxRecDepth 100000 in
set_option maxHeartbeats 2000000 in
theorem refTakeIn_calls (A0 : Option Addr) (c0 : Nat) (l0 : List Int) (w : World) (hr0 : Kd.C (Kd.int .u8) w A0 l0.length l0) (hc0 : l0.length ≤ c0) (hb : Byt l0) (hl : l0.length ≤ 140737488355328) :
    Calls Try.prog 47 #[.slice A0 l0.length c0] w fun e w' => ∃ A c, e = .returned (.tuple #[.slice A (takeF l0).1.length c, .int .i64 (takeF l0).2.1, .int .i64 (takeF l0).2.2]) ∧
      (∀ w0, Kd.C (Kd.int .u8) w0 A0 l0.length l0 → Kd.C (Kd.int .u8) w0 A (takeF l0).1.length (takeF l0).1) ∧ (takeF l0).1.length ≤ c ∧ Below w.heap.size w w' := by
  have HR := Aside0.mk hr0
  have HL := Aside0.mk hl
  have HC0 := Aside0.mk hc0
  have HU := Aside0.mk (refReadUint l0 2 hb 12 (by omega))
  clear hr0 hl hc0
  generalize hF : takeF l0 = F
  have HF := Aside0.mk hF
  clear hF
  go_enter Try.func47, Try.ntmps47
  go_wp2_with fail
  have hT : rdUint l0 2 = if l0.length < 2 then (0, 0, [], 0, 3) else (beNum (l0.take 2), 0, [], 2, 0) := by
    unfold rdUint
    rw [if_neg (by decide)]
    by_cases h : l0.length < 2
    · rw [if_pos (by omega), if_pos h]
    · rw [if_neg (by omega), if_neg h]; rfl
  rw [hT] at HU
  by_cases h2 : l0.length < 2
  · rw [if_pos h2] at HU
    refine (damperref03_ReadUint.calls 12 A0 c0 l0 2 _ _ _ _ _ w HR.out HC0.out HU.out).mono ?_
    rintro e w1 ⟨v2, rfl, hR, hbl⟩
    obtain ⟨A2, c2, rfl⟩ := Kd.R_slice hR
    have HB := Aside0.mk hbl
    clear hR hbl HU hT
    have H2 := Aside0.mk h2
    clear h2
    go_wp2
    go_ret3
    have hb0 := below_alloc HB.out (.cells #[.int .u64 0, .int .i64 0, .slice A2 0 c2, .int .i64 0, .int .i64 3] 81)
    have e : takeF l0 = ([], 0, 3) := by unfold takeF; rw [if_pos H2.out]
    obtain rfl : F = ([], 0, 3) := HF.out.symm.trans e
    exact ⟨none, 0, rfl, fun _ _ => Kd.C_nil _ _, Nat.le_refl _, hb0⟩
  · rw [if_neg h2] at HU
    refine (damperref03_ReadUint.calls 12 A0 c0 l0 2 _ _ _ _ _ w HR.out HC0.out HU.out).mono ?_
    rintro e w1 ⟨v2, rfl, hR, hbl⟩
    obtain ⟨A2, c2, rfl⟩ := Kd.R_slice hR
    have hrg := beNum_range (l0.take 2) (hb.take 2)
    have hrl : (l0.take 2).length = 2 := by rw [List.length_take]; omega
    rw [hrl] at hrg
    have hn0 := hrg.1
    have hn1 : beNum (l0.take 2) < 65536 := hrg.2
    have e : takeF l0 = if 64 < beNum (l0.take 2) then ([], 0, 4) else if (l0.length : Int) < 2 + beNum (l0.take 2) then ([], 0, 3) else ((l0.drop 2).take (beNum (l0.take 2)).toNat, 2 + beNum (l0.take 2), 0) := by
      rw [takeF, if_neg h2]
    have HE : Aside0 ((if 64 < beNum (l0.take 2) then (([] : List Int), (0 : Int), (4 : Int)) else if (l0.length : Int) < 2 + beNum (l0.take 2) then ([], 0, 3) else ((l0.drop 2).take (beNum (l0.take 2)).toNat, 2 + beNum (l0.take 2), 0)) = F) := ⟨e.symm.trans HF.out⟩
    have HRN := Aside0.mk (HR.out)
    have HB := Aside0.mk (Kd.C_below HR.out hbl)
    have HBL := Aside0.mk hbl
    clear hR hbl HU hT e hrg hrl hb HR HF
    obtain ⟨m, hm⟩ := Int.eq_ofNat_of_zero_le hn0
    rw [hm] at hn1 HE ⊢
    clear hn0 hm
    have H2 := Aside0.mk h2
    have HM := Aside0.mk hn1
    clear h2
    by_cases h64 : 64 < m
    · clear hn1
      go_wp2
      go_ret3
      obtain rfl : F = ([], 0, 4) := by have h := HE.out; rw [if_pos (by omega)] at h; exact h.symm
      exact ⟨none, 0, rfl, fun _ _ => Kd.C_nil _ _, Nat.le_refl _, below_alloc HBL.out _⟩
    · have hm64 : m ≤ 64 := by omega
      have H64 := Aside0.mk h64
      clear hn1 h64
      by_cases hls : (l0.length : Int) < 2 + (m : Int)
      · go_wp2
        go_ret3
        obtain rfl : F = ([], 0, 3) := by have h := HE.out; rw [if_neg (by have := H64.out; omega), if_pos hls] at h; exact h.symm
        exact ⟨none, 0, rfl, fun _ _ => Kd.C_nil _ _, Nat.le_refl _, below_alloc HBL.out _⟩
      · have hc0 := HC0.out
        have hfe : F = ((l0.drop 2).take m, 2 + (m : Int), 0) := by have h := HE.out; rw [if_neg (by have := H64.out; omega), if_neg hls] at h; exact h.symm
        have hlen : ((l0.drop 2).take m).length = m := by rw [List.length_take, List.length_drop]; omega
        have HLEN := Aside0.mk hlen
        have hC : ∀ w0, Kd.C (Kd.int .u8) w0 A0 l0.length l0 → Kd.C (Kd.int .u8) w0 (if c0 = 2 then A0 else A0.map (·.add (2 * 1))) ((l0.drop 2).take m).length ((l0.drop 2).take m) := fun w0 h0 => by
          have hC := Kd.C_mid (lo := 2) (hi := 2 + m) (c := c0) h0 (by omega) (by omega) (by omega)
          rw [show (l0.take (2 + m)).drop 2 = (l0.drop 2).take m by rw [List.drop_take]; congr 1; omega] at hC
          exact hC
        have hbb := below_alloc HBL.out (.cells #[.int .u64 (m : Int), .int .i64 0, .slice A2 0 c2, .int .i64 2, .int .i64 0] 81)
        have HFE := Aside0.mk hfe
        clear HE HBL HB HRN hfe
        have HCC := Aside0.mk hC
        have HBB := Aside0.mk hbb
        clear hC hbb hlen
        by_cases hc2 : c0 = 2
        · have HC2 := Aside0.mk hc2
          obtain rfl : m = 0 := by omega
          subst hc2
          go_wp2
          go_ret3
          have h := HCC.out
          simp only [reduceIte, if_true] at h
          obtain rfl := HFE.out
          exact ⟨A0, 0, rfl, h, by simp, HBB.out⟩
        · go_wp2
          go_ret3
          have h := HCC.out
          simp only [if_neg hc2] at h
          obtain rfl := HFE.out
          refine ⟨_, c0 - 2, ?_, h, by rw [HLEN.out]; omega, HBB.out⟩
          rw [HLEN.out, show 2 + m - 2 = m by omega]
          rfl
end Go.Proofs.Ytalpemoodollpaa.P
/- Frames of bytes, plain. -/
namespace Go.Proofs.Ytalpemoodollpaa.P
open Go.RowKit Go.Proofs.YtalpemoodollpaaW.PrintWords Go.Proofs.YtalpemoodollpaaW.PrintLast Go.Proofs.YtalpemoodollpaaW.PrintMore
set_option linter.unusedVariables false
set_option linter.unusedSimpArgs false
theorem beNum_nat (l : List Int) (hb : Byt l) : ∃ m : Nat, beNum l = (m : Int) := by
  obtain ⟨m, hm⟩ := Int.eq_ofNat_of_zero_le (beNum_range l hb).1
  exact ⟨m, hm⟩
/-- A frame that is there: how many bytes it has. -/
theorem takeF_ok {l : List Int} (hb : Byt l) (h : (takeF l).2.2 = 0) : ∃ m : Nat, m ≤ 64 ∧ 2 + m ≤ l.length ∧ (takeF l).1 = (l.drop 2).take m ∧ (takeF l).2.1 = ((2 + m : Nat) : Int) ∧ beNum (l.take 2) = (m : Int) := by
  obtain ⟨m, hm⟩ := beNum_nat (l.take 2) (hb.take 2)
  unfold takeF at h ⊢
  rw [hm] at h ⊢
  by_cases h1 : l.length < 2
  · rw [if_pos h1] at h; exact absurd (show (3 : Int) = 0 from h) (by decide)
  · rw [if_neg h1] at h ⊢
    by_cases h2 : (64 : Int) < (m : Int)
    · rw [if_pos h2] at h; exact absurd (show (4 : Int) = 0 from h) (by decide)
    · rw [if_neg h2] at h ⊢
      by_cases h3 : (l.length : Int) < 2 + (m : Int)
      · rw [if_pos h3] at h; exact absurd (show (3 : Int) = 0 from h) (by decide)
      · rw [if_neg h3]
        refine ⟨m, by omega, by omega, by rw [Int.toNat_natCast], ?_, rfl⟩
        show 2 + (m : Int) = _
        omega
theorem takeF_fault (l : List Int) : (takeF l).2.2 = 0 ∨ (takeF l).2.2 = 3 ∨ (takeF l).2.2 = 4 := by
  unfold takeF
  split
  · exact .inr (.inl rfl)
  · split
    · exact .inr (.inr rfl)
    · split
      · exact .inr (.inl rfl)
      · exact .inl rfl
theorem takeF_nil {l : List Int} (h : (takeF l).2.2 ≠ 0) : (takeF l).1 = [] ∧ (takeF l).2.1 = 0 := by
  unfold takeF at h ⊢
  split
  · exact ⟨rfl, rfl⟩
  · rename_i h1
    rw [if_neg h1] at h
    split
    · exact ⟨rfl, rfl⟩
    · rename_i h2
      rw [if_neg h2] at h
      split
      · exact ⟨rfl, rfl⟩
      · rename_i h3
        rw [if_neg h3] at h
        exact absurd rfl h
theorem takeF_app {l : List Int} (hb : Byt l) (x : List Int) (h : (takeF l).2.2 = 0) : takeF (l ++ x) = takeF l := by
  obtain ⟨m, h64, hlen, e1, e2, e3⟩ := takeF_ok hb h
  have ht : (l ++ x).take 2 = l.take 2 := List.take_append_of_le_length (by omega)
  have hL : (l ++ x).length = l.length + x.length := List.length_append
  have hp : takeF l = ((l.drop 2).take m, ((2 + m : Nat) : Int), 0) := Prod.ext e1 (Prod.ext e2 h)
  rw [hp]
  unfold takeF
  rw [ht, e3, if_neg (by omega), if_neg (by omega), if_neg (by omega), Int.toNat_natCast, List.drop_append_of_le_length (by omega), List.take_append_of_le_length (by rw [List.length_drop]; omega)]
  have : (2 : Int) + (m : Int) = ((2 + m : Nat) : Int) := by omega
  rw [this]
theorem takeF_app4 {l : List Int} (hb : Byt l) (x : List Int) (h : (takeF l).2.2 = 4) : takeF (l ++ x) = takeF l := by
  unfold takeF at h ⊢
  have hL : (l ++ x).length = l.length + x.length := List.length_append
  by_cases h1 : l.length < 2
  · rw [if_pos h1] at h; exact absurd (show (3 : Int) = 4 from h) (by decide)
  · have ht : (l ++ x).take 2 = l.take 2 := List.take_append_of_le_length (by omega)
    rw [if_neg h1] at h ⊢
    rw [if_neg (show ¬ (l ++ x).length < 2 by omega), ht]
    by_cases h2 : 64 < beNum (l.take 2)
    · rw [if_pos h2, if_pos h2]
    · rw [if_neg h2] at h
      split at h
      · exact absurd (show (3 : Int) = 4 from h) (by decide)
      · exact absurd (show (0 : Int) = 4 from h) (by decide)
/-- All frames with which bytes begin: their payloads, where they end, the fault there. -/
def frames (l : List Int) : List (List Int) × Nat × Int :=
  if h : (takeF l).2.2 = 0 ∧ (l.drop (takeF l).2.1.toNat).length < l.length then
    ((takeF l).1 :: (frames (l.drop (takeF l).2.1.toNat)).1, (takeF l).2.1.toNat + (frames (l.drop (takeF l).2.1.toNat)).2.1, (frames (l.drop (takeF l).2.1.toNat)).2.2)
  else ([], 0, if l = [] then 0 else (takeF l).2.2)
termination_by l.length
decreasing_by all_goals exact h.2
/-- The first frame of bytes, taken. -/
structure FT (l : List Int) (p : List Int) (n : Nat) : Prop where
  tk : takeF l = (p, (n : Int), 0)
  two : 2 ≤ n
  len : n ≤ l.length
  pl : p.length ≤ 64
  pn : n = 2 + p.length
  pe : p = (l.drop 2).take p.length
theorem FT.mk' {l : List Int} (hb : Byt l) (h : (takeF l).2.2 = 0) : ∃ p n, FT l p n := by
  obtain ⟨m, h64, hlen, e1, e2, e3⟩ := takeF_ok hb h
  have hl : ((l.drop 2).take m).length = m := by rw [List.length_take, List.length_drop]; omega
  exact ⟨(l.drop 2).take m, 2 + m, Prod.ext e1 (Prod.ext e2 h), by omega, hlen, by omega, by omega, by rw [hl]⟩
theorem FT.frames {l p : List Int} {n : Nat} (h : FT l p n) : frames l = (p :: (frames (l.drop n)).1, n + (frames (l.drop n)).2.1, (frames (l.drop n)).2.2) := by
  rw [P.frames, h.tk]
  dsimp only
  rw [Int.toNat_natCast, dif_pos ⟨rfl, by have := h.len; have := h.two; rw [List.length_drop]; omega⟩]
theorem frames_no {l : List Int} (h : (takeF l).2.2 ≠ 0) : frames l = ([], 0, if l = [] then 0 else (takeF l).2.2) := by
  rw [frames, dif_neg (fun x => h x.1)]
theorem frames_nil : frames [] = ([], 0, 0) := by rw [frames_no (by decide), if_pos rfl]
theorem frames_fault (k : Nat) : ∀ l : List Int, l.length ≤ k → Byt l → ((frames l).2.2 = 0 ∨ (frames l).2.2 = 3 ∨ (frames l).2.2 = 4) ∧ (frames l).2.1 ≤ l.length := by
  induction k with
  | zero =>
    intro l hl hb
    have : l = [] := List.length_eq_zero_iff.1 (by omega)
    subst this
    rw [frames_nil]
    exact ⟨.inl rfl, Nat.le_refl _⟩
  | succ k ih =>
    intro l hl hb
    by_cases h : (takeF l).2.2 = 0
    · obtain ⟨p, n, hf⟩ := FT.mk' hb h
      have h1 := hf.len
      have h2 := hf.two
      have := ih (l.drop n) (by rw [List.length_drop]; omega) (hb.drop n)
      rw [hf.frames]
      rw [List.length_drop] at this
      exact ⟨this.1, by show n + _ ≤ _; omega⟩
    · rw [frames_no h]
      dsimp only
      refine ⟨?_, Nat.zero_le _⟩
      split
      · exact .inl rfl
      · rcases takeF_fault l with h2 | h2 | h2
        · exact absurd h2 h
        · exact .inr (.inl h2)
        · exact .inr (.inr h2)
theorem frames_end (l : List Int) (hb : Byt l) : (frames l).2.1 ≤ l.length := (frames_fault l.length l (Nat.le_refl _) hb).2
theorem frames_count (k : Nat) : ∀ l : List Int, l.length ≤ k → Byt l → 2 * (frames l).1.length ≤ (frames l).2.1 := by
  induction k with
  | zero =>
    intro l hl hb
    have : l = [] := List.length_eq_zero_iff.1 (by omega)
    subst this
    rw [frames_nil]
    exact Nat.le_refl _
  | succ k ih =>
    intro l hl hb
    by_cases h : (takeF l).2.2 = 0
    · obtain ⟨p, n, hf⟩ := FT.mk' hb h
      have h1 := hf.len
      have h2 := hf.two
      have := ih (l.drop n) (by rw [List.length_drop]; omega) (hb.drop n)
      rw [hf.frames]
      simp only [List.length_cons]
      omega
    · rw [frames_no h]
      exact Nat.le_refl _
/-- More bytes behind: what was told stays. -/
theorem frames_app (x : List Int) (k : Nat) : ∀ a : List Int, a.length ≤ k → Byt a → (frames a).2.2 ≠ 4 →
    frames (a ++ x) = ((frames a).1 ++ (frames (a.drop (frames a).2.1 ++ x)).1, (frames a).2.1 + (frames (a.drop (frames a).2.1 ++ x)).2.1, (frames (a.drop (frames a).2.1 ++ x)).2.2) := by
  induction k with
  | zero =>
    intro a ha hb h4
    have : a = [] := List.length_eq_zero_iff.1 (by omega)
    subst this
    rw [frames_nil]
    simp
  | succ k ih =>
    intro a ha hb h4
    by_cases h : (takeF a).2.2 = 0
    · obtain ⟨p, n, hf⟩ := FT.mk' hb h
      have h1 := hf.len
      have h2 := hf.two
      have hfx : FT (a ++ x) p n := ⟨by rw [takeF_app hb x h]; exact hf.tk, h2, by rw [List.length_append]; omega, hf.pl, hf.pn, by
        have := hf.pn
        rw [List.drop_append_of_le_length (by omega), List.take_append_of_le_length (by rw [List.length_drop]; omega)]
        exact hf.pe⟩
      have e := ih (a.drop n) (by rw [List.length_drop]; omega) (hb.drop n) (by rw [hf.frames] at h4; exact h4)
      rw [hfx.frames, hf.frames, List.drop_append_of_le_length h1, e]
      dsimp only
      rw [List.drop_drop]
      simp [Nat.add_assoc]
    · rw [frames_no h]
      simp
theorem frames_app4 (x : List Int) (k : Nat) : ∀ a : List Int, a.length ≤ k → Byt a → (frames a).2.2 = 4 → frames (a ++ x) = frames a := by
  induction k with
  | zero =>
    intro a ha hb h4
    have : a = [] := List.length_eq_zero_iff.1 (by omega)
    subst this
    rw [frames_nil] at h4
    exact absurd (show (0 : Int) = 4 from h4) (by decide)
  | succ k ih =>
    intro a ha hb h4
    by_cases h : (takeF a).2.2 = 0
    · obtain ⟨p, n, hf⟩ := FT.mk' hb h
      have h1 := hf.len
      have h2 := hf.two
      have hfx : FT (a ++ x) p n := ⟨by rw [takeF_app hb x h]; exact hf.tk, h2, by rw [List.length_append]; omega, hf.pl, hf.pn, by
        have := hf.pn
        rw [List.drop_append_of_le_length (by omega), List.take_append_of_le_length (by rw [List.length_drop]; omega)]
        exact hf.pe⟩
      have e := ih (a.drop n) (by rw [List.length_drop]; omega) (hb.drop n) (by rw [hf.frames] at h4; exact h4)
      rw [hfx.frames, hf.frames, List.drop_append_of_le_length h1, e]
    · have h4' := h4
      rw [frames_no h] at h4'
      dsimp only at h4'
      by_cases ha0 : a = []
      · rw [if_pos ha0] at h4'; exact absurd h4' (by decide)
      · rw [if_neg ha0] at h4'
        have e := takeF_app4 hb x h4'
        have hx : a ++ x ≠ [] := fun hx => ha0 (List.append_eq_nil_iff.1 hx).1
        rw [frames_no h, frames_no (by rw [e]; exact h), if_neg ha0, if_neg hx, e]
/-- Frames that are put come out again. -/
def putF (p : List Int) : List Int := uintForm p.length 2 ++ p
def putAll (l : List (List Int)) : List Int := l.flatMap putF
theorem putF_byt {p : List Int} (h : Byt p) : Byt (putF p) := (uintForm_byt _ _).append h
theorem putF_length (p : List Int) : (putF p).length = 2 + p.length := by simp [putF, uintForm_length]
theorem putF_take (p rest : List Int) (h : p.length ≤ 64) : FT (putF p ++ rest) p (2 + p.length) := by
  have e1 : (putF p ++ rest).take 2 = uintForm p.length 2 := by
    rw [putF, List.append_assoc]
    exact List.take_left' (uintForm_length _ _)
  have e2 : (putF p ++ rest).drop 2 = p ++ rest := by
    rw [putF, List.append_assoc]
    exact List.drop_left' (uintForm_length _ _)
  have e3 : beNum (uintForm p.length 2) = (p.length : Int) := by
    rw [beNum_uintForm]
    have : p.length % 256 ^ 2 = p.length := Nat.mod_eq_of_lt (by omega)
    rw [this]
  have hl : (putF p ++ rest).length = 2 + p.length + rest.length := by rw [List.length_append, putF_length]
  refine ⟨?_, by omega, by omega, h, rfl, by rw [e2]; simp⟩
  unfold takeF
  rw [e1, e2, e3, if_neg (by omega), if_neg (by omega), if_neg (by omega), Int.toNat_natCast]
  have : (2 : Int) + (p.length : Int) = ((2 + p.length : Nat) : Int) := by omega
  rw [this]
  simp
theorem frames_put (l : List (List Int)) (h : ∀ p ∈ l, p.length ≤ 64) : frames (putAll l) = (l, (putAll l).length, 0) := by
  induction l with
  | nil => exact frames_nil
  | cons p l ih =>
    have hp := putF_take p (putAll l) (h p List.mem_cons_self)
    have e : putAll (p :: l) = putF p ++ putAll l := rfl
    have hd : (putF p ++ putAll l).drop (2 + p.length) = putAll l := List.drop_left' (putF_length p)
    rw [e, hp.frames, hd, ih (fun q hq => h q (List.mem_cons_of_mem _ hq))]
    simp [putF_length]
end Go.Proofs.Ytalpemoodollpaa.P
/- damperref04.All: all frames of bytes. -/
namespace Go.Proofs.Ytalpemoodollpaa.P
open Go.RowKit Go.Proofs.YtalpemoodollpaaW.PrintWords Go.Proofs.YtalpemoodollpaaW.PrintLast Go.Proofs.YtalpemoodollpaaW.PrintMore
set_option linter.unusedVariables false
set_option linter.unusedSimpArgs false
/-- Where frames of these payloads begin, the first at k. -/
def placesOf : Int → List (List Int) → List Int
  | _, [] => []
  | k, p :: ps => k :: placesOf (k + 2 + p.length) ps
def total : List (List Int) → Nat
  | [] => 0
  | p :: ps => 2 + p.length + total ps
theorem placesOf_length (ps : List (List Int)) : ∀ k, (placesOf k ps).length = ps.length := by
  induction ps with
  | nil => intro k; rfl
  | cons p ps ih => intro k; simp [placesOf, ih]
theorem placesOf_snoc (ps : List (List Int)) (p : List Int) : ∀ k, placesOf k (ps ++ [p]) = placesOf k ps ++ [k + (total ps : Int)] := by
  induction ps with
  | nil => intro k; simp [placesOf, total]
  | cons q ps ih =>
    intro k
    have e : k + 2 + (q.length : Int) + (total ps : Int) = k + ((2 + q.length + total ps : Nat) : Int) := by omega
    simp only [placesOf, List.cons_append, ih, total, e]
theorem total_snoc (ps : List (List Int)) (p : List Int) : total (ps ++ [p]) = total ps + (2 + p.length) := by
  induction ps with
  | nil => simp [total]
  | cons q ps ih => simp only [total, List.cons_append, ih]; omega
theorem total_ge (ps : List (List Int)) : 2 * ps.length ≤ total ps := by
  induction ps with
  | nil => simp [total]
  | cons q ps ih => simp only [total, List.length_cons]; omega
/-- Another row, of another type, has been written. -/
theorem R_grown_t {α : Type} {d : Kd α} {e base : Nat} {ok : Nat → Prop} {w w1 : World} {v : Value} {xs : List α} (h : d.R e w base ok v xs) {b' e' s' n' : Nat} {v' : Value} {ys : List Value} (ho : w.ownsRow b' e' s' v' n' ys) (ht : ∀ q, q ∈ e :: d.E → q ≠ e') (hg : w.grownBy w1 v'.ownBlock) : d.R e w1 base ok v xs := by
  refine Kd.R_mono (Kd.R_grown (Kd.R_bound h) hg ?_) (fun _ hk => hk.1)
  rintro k ⟨_, _, _, q, hq, cells, hc⟩ e2
  obtain ⟨cells', hc'⟩ := own_typed ho k e2.symm
  rw [hc] at hc'
  injection hc' with hc'
  injection hc' with _ hc'
  exact ht q hq hc'
/-- Bytes that are being read. -/
structure RB (w0 : World) (A : Option Addr) (l : List Int) (c : Nat) : Prop where
  hC : Kd.C (Kd.int .u8) w0 A l.length l
  hc : l.length ≤ c
  hb : Byt l
  hl : l.length ≤ 140737488355328
theorem RB.cut {w0 : World} {A : Option Addr} {l : List Int} {c : Nat} (h : RB w0 A l c) (m : Nat) (hm : m ≤ l.length) :
    ∃ A', (∀ W : World, (Instr.slice 30 (.slice A l.length c) (some (.int .i64 (m : Int))) none none).run Try.prog W = .ok (.slice A' (l.drop m).length (c - m)) W) ∧ RB w0 A' (l.drop m) (c - m) ∧
      ∀ w1, Kd.C (Kd.int .u8) w1 A l.length l → Kd.C (Kd.int .u8) w1 A' (l.drop m).length (l.drop m) := by
  obtain ⟨A', hcut, _, hR⟩ := cut_ A l.length c m hm
  have key : ∀ w1, Kd.C (Kd.int .u8) w1 A l.length l → Kd.C (Kd.int .u8) w1 A' (l.drop m).length (l.drop m) := fun w1 h1 => by
    have := hR w1 l h.hc h1
    rw [List.length_drop]
    exact this
  exact ⟨A', fun W => by rw [List.length_drop]; exact hcut W, ⟨key w0 h.hC, by have := h.hc; rw [List.length_drop]; omega, h.hb.drop m, by have := h.hl; rw [List.length_drop]; omega⟩, key⟩
/-- A slice of the bytes that lie at A0: read, wherever these are. -/
def kIn (A0 : Option Addr) (l : List Int) : Kd (List Int) where
  sz := 1
  E := []
  K := fun _ x cs => ∃ X m, cs = [.slice X x.length m] ∧ x.length ≤ m ∧ ∀ w0, Kd.C (Kd.int .u8) w0 A0 l.length l → Kd.C (Kd.int .u8) w0 X x.length x
  M := fun _ _ _ x cs => ∃ X m, cs = [.slice X x.length m] ∧ x.length ≤ m ∧ ∀ w0, Kd.C (Kd.int .u8) w0 A0 l.length l → Kd.C (Kd.int .u8) w0 X x.length x
  K_len := by
    rintro w x cs ⟨X, m, rfl, _⟩
    rfl
  K_one := by
    rintro w x cs ⟨X, m, rfl, _⟩ u hu
    rw [List.mem_singleton.1 hu]
    rfl
  K_below := fun _ h => h
  K_of_M := fun h => h
  M_mono := fun _ h => h
  M_bound := fun h => h
  M_move := fun _ h => h
  M_lower := fun _ h => h
/-- A row of such slices, read. -/
theorem kIn_C {A0 : Option Addr} {l : List Int} {w : World} {A : Option Addr} {n : Nat} {xs : List (List Int)} (h : (kIn A0 l).C w A n xs) (hl : Kd.C (Kd.int .u8) w A0 l.length l) : Kd.C (Kd.slice 5 (Kd.int .u8)) w A n xs :=
  ReadsRow.imp_ h (Below.refl _ _) (fun x cs ⟨X, m, e, hq, hC⟩ => ⟨X, m, e, hq, hC w hl⟩)
theorem kIn_ne (A : Option Addr) (l : List Int) : ∀ q, q ∈ 30 :: (kIn A l).E → q ≠ 3 := by
  intro q hq
  have : q = 30 := by simpa [kIn] using hq
  omega
theorem kint_ne : ∀ q, q ∈ 3 :: (Kd.int .i64).E → q ≠ 30 := by
  intro q hq
  have : q = 3 := by simpa [Kd.int, Kd.scalar] using hq
  omega
def AllPost (w : World) (A0 : Option Addr) (l : List Int) (F : List (List Int) × Nat × Int) (e : Ending) (w' : World) : Prop :=
  ∃ v1 v2 : Value, e = .returned (.tuple #[v1, v2, .int .i64 (F.2.1 : Int), .int .i64 F.2.2]) ∧
    Kd.R (Kd.int .i64) 3 w' w.heap.size (fun _ => True) v1 (placesOf 0 F.1) ∧ Kd.R (kIn A0 l) 30 w' w.heap.size (fun _ => True) v2 F.1 ∧ Below w.heap.size w w'
theorem info3_ : (Try.prog.info? 3).map (fun i => (i.zero, i.size, i.bytes)) = some (some (.int .i64 0), 1, 8) := by kernel_rfl
theorem info30_ : (Try.prog.info? 30).map (fun i => (i.zero, i.size, i.bytes)) = some (some (.slice none 0 0), 1, 24) := by kernel_rfl
set_option maxRecDepth 100000 in
set_option maxHeartbeats 2000000 in
theorem refAll_calls (A0 : Option Addr) (c0 : Nat) (l : List Int) (w : World) (hr0 : Kd.C (Kd.int .u8) w A0 l.length l) (hc0 : l.length ≤ c0) (hl : l.length ≤ 1000000) (hb : Byt l) :
    Calls Try.prog 53 #[.slice A0 l.length c0] w (AllPost w A0 l (frames l)) := by
  have HRB := Aside0.mk (RB.mk hr0 hc0 hb (by omega))
  obtain ⟨N, hN⟩ : ∃ N, l.length = N := ⟨_, rfl⟩
  rw [hN] at hc0 hl ⊢
  have HN := Aside0.mk hN
  generalize hG : frames l = G
  have HG := Aside0.mk hG
  have hl2 : (N : Int) ≤ 1000000 := by omega
  clear hr0 hb hG hN
  go_enter Try.func53, Try.ntmps53
  go_wp2
  go_loopw [6, 7, 8] (fun u6 u7 u8 wr => ∃ (i : Nat) (acc : List (List Int)), u8 = .int .i64 (i : Int) ∧ i ≤ N ∧ acc.length ≤ i ∧ Aside0 (i = total acc) ∧ Aside0 (G = (acc ++ (frames (l.drop i)).1, i + (frames (l.drop i)).2.1, (frames (l.drop i)).2.2)) ∧ Aside0 (Kd.R (Kd.int .i64) 3 wr w.heap.size (fun _ => True) u6 (placesOf 0 acc)) ∧ Aside0 (Kd.R (kIn A0 l) 30 wr w.heap.size (fun _ => True) u7 acc) ∧ Aside0 (Below w.heap.size w wr)) (fun _ _ u8 _ => (N - (intOf u8).toNat))
  case atStart => exact ⟨0, [], rfl, by omega, by simp, ⟨rfl⟩, ⟨by rw [← HG.out]; simp⟩, ⟨Kd.R_nil _ _ _ _ _⟩, ⟨Kd.R_nil _ _ _ _ _⟩, ⟨Below.refl _ _⟩⟩
  case round =>
    obtain ⟨i, acc, rfl, hi, hac, HI, HS, H6, H7, HB⟩ := hrel
    by_cases hlt : i < N
    · obtain ⟨A', hcut, hrb, hall⟩ := HRB.out.cut i (by rw [HN.out]; omega)
      have HRC : Aside0 (∀ w0, Kd.C (Kd.int .u8) w0 A0 l.length l → Kd.C (Kd.int .u8) w0 A' (l.drop i).length (l.drop i)) := ⟨hall⟩
      rw [HN.out] at hcut
      have TK := Aside0.mk (refTakeIn_calls A' (c0 - i) (l.drop i) wr (Kd.C_below hrb.hC HB.out) hrb.hc hrb.hb hrb.hl)
      have FTK := Aside0.mk (fun h => FT.mk' (l := l.drop i) hrb.hb h)
      have FNO := Aside0.mk (fun h => frames_no (l := l.drop i) h)
      have TNO := Aside0.mk (fun h => takeF_nil (l := l.drop i) h)
      have HDL := Aside0.mk (show (l.drop i).length = N - i by rw [List.length_drop, HN.out])
      clear hrb hall
      generalize hT : takeF (l.drop i) = T at *
      have HT := Aside0.mk hT
      clear hT
      obtain ⟨p, n, f⟩ := T
      dsimp only at *
      generalize hdl : (l.drop i).length = DL at *
      clear hdl
      go_wp2_with fail
      refine TK.out.mono ?_
      rintro e w4 ⟨X, m, rfl, hX, hq, hb4⟩
      have B4 := Aside0.mk (below_then HB.out HB.out.size hb4)
      have H64 := Aside0.mk (Kd.R_below H6.out hb4)
      have H74 := Aside0.mk (Kd.R_below H7.out hb4)
      have HX := Aside0.mk hX
      have HQ := Aside0.mk hq
      clear hX hq hb4 TK H6 H7 HB
      by_cases hf : f = 0
      · subst hf
        obtain ⟨p', n', hft⟩ := FTK.out rfl
        have htk := hft.tk
        rw [HT.out] at htk
        injection htk with ep en
        injection en with en _
        subst ep en
        have hn2 := hft.two
        have hnl := hft.len
        have hpn := hft.pn
        have hnN : i + n' ≤ N := by have := HDL.out; rw [List.length_drop, HN.out] at hnl; omega
        have HS2 : Aside0 (G = ((acc ++ [p]) ++ (frames (l.drop (i + n'))).1, (i + n') + (frames (l.drop (i + n'))).2.1, (frames (l.drop (i + n'))).2.2)) := ⟨by
          rw [HS.out, hft.frames, List.drop_drop]
          simp [Nat.add_assoc]⟩
        have HI2 : Aside0 (i + n' = total (acc ++ [p])) := ⟨by rw [total_snoc, ← HI.out]; omega⟩
        have HX2 : Aside0 (∀ w0, Kd.C (Kd.int .u8) w0 A0 l.length l → Kd.C (Kd.int .u8) w0 X p.length p) := ⟨fun w0 h0 => HX.out w0 (HRC.out w0 h0)⟩
        obtain ⟨in6, ho6⟩ := Kd.R_own H64.out
        have HO6 := Aside0.mk ho6
        have HPL : Aside0 (placesOf 0 acc ++ [(i : Int)] = placesOf 0 (acc ++ [p])) := ⟨by rw [placesOf_snoc, ← HI.out]; simp⟩
        clear ho6 hft HS HI FTK FNO TNO HT HRC hpn hnl
        have hnN2 : (i : Int) + (n' : Int) ≤ (N : Int) := by omega
        have hpll : Aside0 ((placesOf 0 acc).length ≤ 1000000) := ⟨by rw [placesOf_length]; omega⟩
        go_upto_region 9 with (at_builtin; go_must (refine Kd.R_append (Kd.int .i64) (w0 := w) w.heap.size rfl (.tmp 30) (.tmp 32) 61 3 _ 8 rfl Try.underlying61 info3_ (by rfl) (show 0 < 1 from by decide) (by decide) u6 (placesOf 0 acc) (i : Int) [.int .i64 (i : Int)] (fun _ => True) (fun _ => False) rfl rfl rfl (fun _ h => False.elim h) (fun _ _ => trivial) H64.out B4.out B4.out.size (by have := hpll.out; omega) ?_); intro v1 w5 hR1 hB1 hg1 hat1; rw [HPL.out] at hR1; have H65 := Aside0.mk hR1; have B5 := Aside0.mk hB1; have H75 := Aside0.mk (R_grown_t H74.out HO6.out (kIn_ne A0 l) hg1); clear hR1 hB1 hg1 hat1)
        go_wp2_with (at_builtin; go_must (refine Kd.R_append (kIn A0 l) (w0 := w) w.heap.size rfl (.tmp 34) (.tmp 36) 62 30 _ 24 rfl Try.underlying62 info30_ (by rfl) (show 0 < 1 from by decide) (by decide) u7 acc p [.slice X p.length m] (fun _ => True) (fun _ => False) rfl rfl ⟨X, m, rfl, HQ.out, HX2.out⟩ (fun _ h => False.elim h) (fun _ _ => trivial) H75.out B5.out B5.out.size (by omega) ?_); intro v2 w6 hR1 hB1 hg1 hat1; have H76 := Aside0.mk hR1; have B6 := Aside0.mk hB1; obtain ⟨in7, ho7⟩ := Kd.R_own H75.out; have H66 := Aside0.mk (R_grown_t H65.out ho7 kint_ne hg1); clear hR1 hB1 hg1 hat1 ho7)
        go_roundw
        case rel => exact ⟨i + n', acc ++ [p], by go_num, by omega, by simp; omega, HI2, HS2, H66, H76, B6⟩
        case measure => simp [intOf]; omega
      · have hff : (f != 0) = true := by simpa using hf
        have HG2 : Aside0 (G = (acc, i, f)) := ⟨by
          have h1 := HS.out
          have h2 := FNO.out hf
          rw [h2] at h1
          rw [h1, if_neg (by intro e; have := congrArg List.length e; rw [List.length_drop, HN.out] at this; simp at this; omega)]
          simp⟩
        obtain rfl := HG2.out
        clear hf HG2 HS FTK FNO TNO HT HRC HX
        go_wp2
        refine bodyPost_ret (v := .tuple #[u6, u7, .int .i64 (i : Int), .int .i64 f]) (by simp [results, Try.results53, go_sem]) rfl ?_
        exact ⟨_, _, rfl, H64.out, H74.out, B4.out⟩
    · obtain rfl : i = N := by omega
      have HG2 : Aside0 (G = (acc, i, 0)) := ⟨by
        have h1 := HS.out
        rw [List.drop_eq_nil_of_le (by rw [HN.out]; exact Nat.le_refl _), frames_nil] at h1
        simpa using h1⟩
      obtain rfl := HG2.out
      clear HG2 HS HG HI
      go_wp2
      refine bodyPost_ret (v := .tuple #[u6, u7, .int .i64 (i : Int), .int .i64 0]) (by simp [results, Try.results53, go_sem]) rfl ?_
      exact ⟨_, _, rfl, H6.out, H7.out, HB.out⟩
end Go.Proofs.Ytalpemoodollpaa.P
/- frame.Each. -/
namespace Go.Proofs.Ytalpemoodollpaa.P
open Go.RowKit Go.Shelf Go.Proofs.YtalpemoodollpaaW.PrintWords Go.Proofs.YtalpemoodollpaaW.PrintLast Go.Proofs.YtalpemoodollpaaW.PrintMore
set_option linter.unusedVariables false
set_option linter.unusedSimpArgs false
attribute [local go_sem] Oper.semAt_some
/-- What Each hands on: the place, the payload's slice, the payload. -/
structure El where
  at_ : Int
  v : Value
  p : List Int
def encE (x : El) : Array Value := #[.int .i64 x.at_, x.v]
def PrE (x : El) (W : World) : Prop := ∃ A c, x.v = .slice A x.p.length c ∧ x.p.length ≤ c ∧ Kd.C (Kd.int .u8) W A x.p.length x.p
/-- What a round must keep: what lay below m, and the box B. -/
def KpE (m B : Nat) (W W' : World) : Prop := Below m W W' ∧ W'.heap[B]? = W.heap[B]?
theorem KpE.refl (m B : Nat) (W : World) : KpE m B W W := ⟨Below.refl _ _, rfl⟩
theorem KpE.t {m B : Nat} {X Y Z : World} (h : KpE m B X Y) (k : KpE m B Y Z) : KpE m B X Z := ⟨h.1.trans k.1, k.2.trans h.2⟩
theorem KpE.b {m B : Nat} {w : World} (hm : m ≤ w.heap.size) (hB : B < w.heap.size) (W : World) (l : Nat) (o o' : Obj) (hl : w.heap.size ≤ l) (h : W.heap[l]? = some o) (h1 : o.isCells = false) (h2 : o.isWalk = false) : KpE m B W (W.putObj l o') :=
  ⟨belowK_b hm W l o o' hl h h1 h2, World.putObj_heap_other (by omega)⟩
theorem KpE.below {m B : Nat} {X Y Z : World} (h : KpE m B X Y) (hm : m ≤ Y.heap.size) (hB : B < Y.heap.size) (k : Below Y.heap.size Y Z) : KpE m B X Z :=
  ⟨below_then h.1 hm k, (k.block _ hB).trans h.2⟩
theorem C_put {W : World} {A : Option Addr} {k : Nat} {xs : List Int} {l : Nat} {o : Obj} (o' : Obj) (h : Kd.C (Kd.int .u8) W A k xs) (hl : W.heap[l]? = some o) (ho : o.isCells = false) : Kd.C (Kd.int .u8) (W.putObj l o') A k xs := by
  refine Kd.C_of_reads (d := (0 : Int)) ?_
  have h' := Kd.reads_of_C (d := (0 : Int)) h
  refine ⟨h'.1, h'.2.1, fun hp => ?_⟩
  obtain ⟨ad, rfl, hcell⟩ := h'.2.2 hp
  exact ⟨ad, rfl, fun j hj => cell_kept (hcell j hj) (grownBy_putObj' W l o') (fun r e => by cases e; exact ⟨o, hl, ho⟩)⟩
theorem PrE.put (x : El) (W : World) (l : Nat) (o o' : Obj) (h : PrE x W) (hl : W.heap[l]? = some o) (ho : o.isCells = false) : PrE x (W.putObj l o') := by
  obtain ⟨A, c, e, hq, hC⟩ := h
  exact ⟨A, c, e, hq, C_put o' hC hl ho⟩
/-- What has come: the frames, each at its place. -/
def came (pre : List El) : List (Int × List Int) := pre.map fun x => (x.at_, x.p)
def eachL (fs : List (List Int)) : List (Int × List Int) := (placesOf 0 fs).zip fs
theorem eachL_snoc (fs : List (List Int)) (p : List Int) : eachL (fs ++ [p]) = eachL fs ++ [((total fs : Int), p)] := by
  unfold eachL
  rw [placesOf_snoc, List.zip_append (placesOf_length fs 0)]
  simp
set_option maxRecDepth 100000 in
set_option maxHeartbeats 2000000 in
theorem each1_in (n l Bs m0 : Nat) (A0 : Option Addr) (c0 : Nat) (bs : List Int) (w0 W : World) (hn : 1 ≤ n) (J Jx : List El → World → Prop)
    (hm : m0 ≤ W.heap.size) (hBs : W.heap[Bs]? = some (.cells #[.slice A0 bs.length c0] 30 (0, 0))) (hrb : RB w0 A0 bs c0) (hw0 : w0.heap.size = m0) (hbl : Below m0 w0 W) (hl : bs.length ≤ 1000000)
    (hJ : AbidesFrom W.heap.size J) (hJx : AbidesFrom W.heap.size Jx)
    (hY : ∀ pre x W1, J pre W1 → PrE x W1 → (∃ fs, fs <+: (frames bs).1 ∧ came (pre ++ [x]) = eachL fs) → pre.length < (frames bs).1.length → YieldAt Fence.wide (n - 1) Try.prog l (encE x) W1 fun e W' =>
      (e = .returned (.bool true) ∧ J (pre ++ [x]) W' ∧ KpE m0 Bs W1 W') ∨ (e = .returned (.bool false) ∧ Jx (pre ++ [x]) W'))
    (h0 : J [] W) :
    CallsIn Fence.wide n Try.prog 111 #[.func (.yield l) #[] #[], .pointer (some ⟨Bs, 0, none⟩)] W fun e W' => (∃ v, e = .returned v) ∧
      ((∃ ys, came ys = eachL (frames bs).1 ∧ J ys W') ∨ (∃ pre, (∃ fs, fs <+: (frames bs).1 ∧ came pre = eachL fs) ∧ Jx pre W')) := by
  have HRB := Aside0.mk hrb
  have HBX := Aside0.mk hBs
  have HBL := Aside0.mk hbl
  obtain ⟨N, hN⟩ : ∃ N, bs.length = N := ⟨_, rfl⟩
  have HN := Aside0.mk hN
  rw [hN] at HBX hl
  have HJ := Aside0.mk hJ
  have HJX := Aside0.mk hJx
  have HY := Aside0.mk hY
  have HW0 := Aside0.mk hw0
  have hl2 : (N : Int) ≤ 1000000 := by omega
  have c0_ : W.cell? ⟨Bs, 0, none⟩ = some (.slice A0 N c0) := (blk_cell HBX.out 0).trans rfl
  clear hBs hrb hbl hN hJ hJx hY hw0
  refine callsIn_of_wp Try.func111 rfl trivial ?_ rfl
  simp only [Try.ntmps111, List.size_toArray, List.length_cons, List.length_nil, Nat.reduceAdd, Nat.reduceSub, Array.replicate_succ, Array.replicate_zero, List.push_toArray, List.append_toArray, List.nil_append, List.cons_append]
  gi_wp2
  gi_loopw [3] (fun u3 wr => ∃ (i : Nat) (acc : List (List Int)) (pre : List El), u3 = .int .i64 (i : Int) ∧ i ≤ N ∧ Aside0 (i = total acc) ∧ Aside0 ((frames bs).1 = acc ++ (frames (bs.drop i)).1) ∧ Aside0 (came pre = eachL acc) ∧ Aside0 (J pre wr) ∧ Aside0 (KpE m0 Bs W wr)) (fun u3 _ => (N - (intOf u3).toNat))
  case atStart => exact ⟨0, [], [], rfl, by omega, ⟨rfl⟩, ⟨by simp⟩, ⟨rfl⟩, ⟨h0⟩, ⟨KpE.refl _ _ _⟩⟩
  case round =>
    obtain ⟨i, acc, pre, rfl, hi, HI, HS, HCM, HJS, HKP⟩ := hrel
    have XB := Aside0.mk (HKP.out.2.trans HBX.out)
    have e0_ : wr.cell? ⟨Bs, 0, none⟩ = some (.slice A0 N c0) := (blk_cell XB.out 0).trans rfl
    by_cases hlt : i < N
    · obtain ⟨A', hcut, hrb', hall⟩ := HRB.out.cut i (by rw [HN.out]; omega)
      rw [HN.out] at hcut
      have hwr : Below w0.heap.size w0 wr := by rw [HW0.out]; exact HBL.out.trans HKP.out.1
      have hszW : W.heap.size ≤ wr.heap.size := HKP.out.1.size
      have TK := Aside0.mk (frame_Take.calls A' (c0 - i) (bs.drop i) (takeF (bs.drop i)).1 (takeF (bs.drop i)).2.1 (takeF (bs.drop i)).2.2 wr (Kd.C_below hrb'.hC hwr) hrb'.hc (show frame_Take.f (bs.drop i) = some (takeF (bs.drop i)) by
        unfold frame_Take.f; rw [if_pos ⟨bytB_of hrb'.hb, hrb'.hl⟩]))
      have FTK := Aside0.mk (fun h => FT.mk' (l := bs.drop i) hrb'.hb h)
      have FNO := Aside0.mk (fun h => frames_no (l := bs.drop i) h)
      have HDL := Aside0.mk (show (bs.drop i).length = N - i by rw [List.length_drop, HN.out])
      clear hrb' hall hwr
      generalize hT : takeF (bs.drop i) = T at *
      have HT := Aside0.mk hT
      clear hT
      obtain ⟨p, nn, f⟩ := T
      dsimp only at *
      generalize hdl : (bs.drop i).length = DL at *
      clear hdl
      gi_wp2_with fail
      refine ⟨trivial, ?_⟩
      refine (callsIn_wide.2 TK.out).mono ?_
      rintro e w4 ⟨v4, rfl, hR4, hb4⟩
      obtain ⟨X, m, rfl⟩ := Kd.R_slice hR4
      have HX := Aside0.mk (Kd.R_reads' hR4)
      have hJ4 : Aside0 (J pre w4) := ⟨HJ.out pre wr w4 none HJS.out (grown_of_below hb4 none) (fun r e => by cases e)⟩
      have HKP4 : Aside0 (KpE m0 Bs W w4) := ⟨KpE.below HKP.out (by have := HKP.out.1.size; omega) (by have := XB.out; have := (Array.getElem?_eq_some_iff.1 this).1; omega) hb4⟩
      clear hR4 hb4 TK HJS HKP XB e0_
      have XB := Aside0.mk (HKP4.out.2.trans HBX.out)
      have e0_ : w4.cell? ⟨Bs, 0, none⟩ = some (.slice A0 N c0) := (blk_cell XB.out 0).trans rfl
      by_cases hf : f = 0
      · subst hf
        obtain ⟨p', n', hft⟩ := FTK.out rfl
        have htk := hft.tk
        rw [HT.out] at htk
        injection htk with ep en
        injection en with en _
        subst ep en
        have hn2 := hft.two
        have hnl := hft.len
        have hpn := hft.pn
        have hnN : i + n' ≤ N := by have := HDL.out; rw [List.length_drop, HN.out] at hnl; omega
        have HS2 : Aside0 ((frames bs).1 = (acc ++ [p]) ++ (frames (bs.drop (i + n'))).1) := ⟨by
          rw [HS.out, hft.frames, List.drop_drop]
          simp⟩
        have HI2 : Aside0 (i + n' = total (acc ++ [p])) := ⟨by rw [total_snoc, ← HI.out]; omega⟩
        have HCM2 : Aside0 (came (pre ++ [⟨i, .slice X p.length m, p⟩]) = eachL (acc ++ [p])) := ⟨by
          rw [eachL_snoc, ← HI.out, ← HCM.out]; simp [came]⟩
        have hlen : pre.length < (frames bs).1.length := by
          have h1 := congrArg List.length HCM.out
          have h2 := congrArg List.length HS2.out
          simp only [came, eachL, List.length_map, List.length_zip, placesOf_length, Nat.min_self] at h1
          simp only [List.length_append, List.length_cons, List.length_nil] at h2
          omega
        have hpr : PrE ⟨i, .slice X p.length m, p⟩ w4 := ⟨X, m, rfl, HX.out.2.1, HX.out.2.2⟩
        obtain ⟨fn, tmps, assign, body, hy, hR⟩ := HY.out pre ⟨i, .slice X p.length m, p⟩ w4 hJ4.out hpr ⟨acc ++ [p], ⟨_, HS2.out.symm⟩, HCM2.out⟩ hlen
        have HRR := Aside0.mk hR
        clear hR
        dsimp only [encE] at hy
        clear hft hpr HS HI FTK FNO HT HCM hpn hnl hlen
        have hnN2 : (i : Int) + (n' : Int) ≤ (N : Int) := by omega
        gi_wp2
        refine HRR.out.mono ?_
        rintro e W3 (⟨rfl, hJ3, hk3⟩ | ⟨rfl, hJx3⟩)
        · have HJ3 := Aside0.mk hJ3
          have HKP3 : Aside0 (KpE m0 Bs W W3) := ⟨HKP4.out.t hk3⟩
          clear hJ3 hk3
          gi_wp2
          go_roundw
          case rel => exact ⟨i + n', acc ++ [p], pre ++ [⟨i, .slice X p.length m, p⟩], by go_num, by omega, HI2, HS2, HCM2, HJ3, HKP3⟩
          case measure => simp [intOf]; omega
        · gi_wp2
          refine bodyPost_ret (results_none rfl _ _ _) rfl ?_
          exact ⟨⟨_, rfl⟩, .inr ⟨_, ⟨acc ++ [p], ⟨_, HS2.out.symm⟩, HCM2.out⟩, hJx3⟩⟩
      · have hff : (f != 0) = true := by simpa using hf
        have HD : Aside0 (came pre = eachL (frames bs).1) := ⟨by
          rw [HCM.out, HS.out, FNO.out hf, List.append_nil]⟩
        clear HS HI FTK FNO HT HCM
        clear HY HJ HJX
        gi_wp2
        refine ⟨(fun f h => by cases h), ?_⟩
        gi_wp2
        refine bodyPost_ret (results_none rfl _ _ _) rfl ?_
        exact ⟨⟨_, rfl⟩, .inl ⟨pre, HD.out, hJ4.out⟩⟩
    · obtain rfl : i = N := by omega
      gi_wp2
      go_end0
      refine ⟨⟨_, rfl⟩, .inl ⟨pre, ?_, HJS.out⟩⟩
      have h1 := HS.out
      rw [List.drop_eq_nil_of_le (by rw [HN.out]; exact Nat.le_refl _), frames_nil] at h1
      rw [HCM.out, h1, List.append_nil]
theorem placesOf_append (a b : List (List Int)) : ∀ k, placesOf k (a ++ b) = placesOf k a ++ placesOf (k + (total a : Int)) b := by
  induction a with
  | nil => intro k; simp [placesOf, total]
  | cons q a ih =>
    intro k
    have e : k + 2 + (q.length : Int) + (total a : Int) = k + ((2 + q.length + total a : Nat) : Int) := by omega
    simp only [placesOf, List.cons_append, ih, total, e]
theorem eachL_prefix {fs F : List (List Int)} (h : fs <+: F) : eachL fs <+: eachL F := by
  obtain ⟨r, rfl⟩ := h
  unfold eachL
  rw [placesOf_append, List.zip_append (placesOf_length fs 0)]
  exact ⟨_, rfl⟩
theorem eachL_length (fs : List (List Int)) : (eachL fs).length = fs.length := by
  simp [eachL, List.length_zip, placesOf_length]
/-- What comes next is the frame whose turn it is. -/
theorem came_next {F : List (List Int)} {pre : List El} {x : El} (h : ∃ fs, fs <+: F ∧ came (pre ++ [x]) = eachL fs) :
    pre.length < F.length ∧ (placesOf 0 F)[pre.length]? = some x.at_ ∧ F[pre.length]? = some x.p := by
  obtain ⟨fs, hp, hc⟩ := h
  have h1 : (eachL fs)[pre.length]? = some (x.at_, x.p) := by
    rw [← hc]
    simp [came]
  obtain ⟨r, hr⟩ := eachL_prefix hp
  have hlt : pre.length < (eachL fs).length := (List.getElem?_eq_some_iff.1 h1).1
  have h2 : (eachL F)[pre.length]? = some (x.at_, x.p) := by rw [← hr, List.getElem?_append_left hlt]; exact h1
  have h3 : pre.length < F.length := by
    have := (List.getElem?_eq_some_iff.1 h2).1
    rwa [eachL_length] at this
  refine ⟨h3, ?_⟩
  unfold eachL at h2
  rw [List.getElem?_zip_eq_some] at h2
  exact h2
/-- **frame.Each's value: every frame; or a prefix.** -/
theorem each_stops (n Bs m0 : Nat) (A0 : Option Addr) (c0 : Nat) (bs : List Int) (w0 w : World) (hn : 1 ≤ n) (hm : m0 ≤ w.heap.size) (hBs : w.heap[Bs]? = some (.cells #[.slice A0 bs.length c0] 30 (0, 0))) (hrb : RB w0 A0 bs c0) (hw0 : w0.heap.size = m0)
    (hbl : Below m0 w0 w) (hl : bs.length ≤ 1000000) :
    SeqPr Fence.wide n Try.prog 111 #[.pointer (some ⟨Bs, 0, none⟩)] encE PrE (KpE m0 Bs) (fun ys => came ys = eachL (frames bs).1) (fun pre => ∃ fs, fs <+: (frames bs).1 ∧ came pre = eachL fs) (frames bs).1.length w := fun l J Jx W hW hJ hJx hY h0 =>
  each1_in n l Bs m0 A0 c0 bs w0 W hn J Jx (Nat.le_trans hm hW.size) ((hW.block _ (Array.getElem?_eq_some_iff.1 hBs).1).trans hBs) hrb hw0 (hbl.trans (hW.mono hm)) hl hJ hJx hY h0
set_option maxRecDepth 100000 in
set_option maxHeartbeats 1000000 in
/-- **frame.Each**: the slice is boxed; the function value captures the box. -/
theorem each_calls (a : Option Addr) (len cap : Nat) (w : World) :
    Calls Try.prog 54 #[.slice a len cap] w fun e w' => e = .returned (.func (.func 111) #[] #[.pointer (some ⟨w.heap.size, 0, none⟩)]) ∧ w' = w.alloc (.cells #[.slice a len cap] 30) := by
  go_enter Try.func54, Try.ntmps54
  go_wp2
  go_ret
  exact ⟨rfl, rfl⟩
end Go.Proofs.Ytalpemoodollpaa.P
/- damperref04.Take: what it tells is what frame.Take tells. -/
namespace Go.Proofs.Ytalpemoodollpaa.P
open Go.RowKit Go.Proofs.YtalpemoodollpaaW.PrintWords Go.Proofs.YtalpemoodollpaaW.PrintLast Go.Proofs.YtalpemoodollpaaW.PrintMore
set_option linter.unusedVariables false
set_option linter.unusedSimpArgs false
set_option maxRecDepth 100000 in
set_option maxHeartbeats 2000000 in
theorem refTake_calls (A0 : Option Addr) (c0 : Nat) (l0 : List Int) (w : World) (hr0 : Kd.C (Kd.int .u8) w A0 l0.length l0) (hc0 : l0.length ≤ c0) (hb : Byt l0) (hl : l0.length ≤ 140737488355328) :
    Calls Try.prog 47 #[.slice A0 l0.length c0] w fun e w' => ∃ A c, e = .returned (.tuple #[.slice A (takeF l0).1.length c, .int .i64 (takeF l0).2.1, .int .i64 (takeF l0).2.2]) ∧
      Kd.C (Kd.int .u8) w' A (takeF l0).1.length (takeF l0).1 ∧ (takeF l0).1.length ≤ c ∧ Below w.heap.size w w' := by
  have HR := Aside0.mk hr0
  have HL := Aside0.mk hl
  have HC0 := Aside0.mk hc0
  have HU := Aside0.mk (refReadUint l0 2 hb 12 (by omega))
  clear hr0 hl hc0
  generalize hF : takeF l0 = F
  have HF := Aside0.mk hF
  clear hF
  go_enter Try.func47, Try.ntmps47
  go_wp2_with fail
  have hT : rdUint l0 2 = if l0.length < 2 then (0, 0, [], 0, 3) else (beNum (l0.take 2), 0, [], 2, 0) := by
    unfold rdUint
    rw [if_neg (by decide)]
    by_cases h : l0.length < 2
    · rw [if_pos (by omega), if_pos h]
    · rw [if_neg (by omega), if_neg h]; rfl
  rw [hT] at HU
  by_cases h2 : l0.length < 2
  · rw [if_pos h2] at HU
    refine (damperref03_ReadUint.calls 12 A0 c0 l0 2 _ _ _ _ _ w HR.out HC0.out HU.out).mono ?_
    rintro e w1 ⟨v2, rfl, hR, hbl⟩
    obtain ⟨A2, c2, rfl⟩ := Kd.R_slice hR
    have HB := Aside0.mk hbl
    clear hR hbl HU hT
    have H2 := Aside0.mk h2
    clear h2
    go_wp2
    go_ret3
    have hb0 := below_alloc HB.out (.cells #[.int .u64 0, .int .i64 0, .slice A2 0 c2, .int .i64 0, .int .i64 3] 81)
    have e : takeF l0 = ([], 0, 3) := by unfold takeF; rw [if_pos H2.out]
    obtain rfl : F = ([], 0, 3) := HF.out.symm.trans e
    exact ⟨none, 0, rfl, Kd.C_nil _ _, Nat.le_refl _, hb0⟩
  · rw [if_neg h2] at HU
    refine (damperref03_ReadUint.calls 12 A0 c0 l0 2 _ _ _ _ _ w HR.out HC0.out HU.out).mono ?_
    rintro e w1 ⟨v2, rfl, hR, hbl⟩
    obtain ⟨A2, c2, rfl⟩ := Kd.R_slice hR
    have hrg := beNum_range (l0.take 2) (hb.take 2)
    have hrl : (l0.take 2).length = 2 := by rw [List.length_take]; omega
    rw [hrl] at hrg
    have hn0 := hrg.1
    have hn1 : beNum (l0.take 2) < 65536 := hrg.2
    have e : takeF l0 = if 64 < beNum (l0.take 2) then ([], 0, 4) else if (l0.length : Int) < 2 + beNum (l0.take 2) then ([], 0, 3) else ((l0.drop 2).take (beNum (l0.take 2)).toNat, 2 + beNum (l0.take 2), 0) := by
      rw [takeF, if_neg h2]
    have HE : Aside0 ((if 64 < beNum (l0.take 2) then (([] : List Int), (0 : Int), (4 : Int)) else if (l0.length : Int) < 2 + beNum (l0.take 2) then ([], 0, 3) else ((l0.drop 2).take (beNum (l0.take 2)).toNat, 2 + beNum (l0.take 2), 0)) = F) := ⟨e.symm.trans HF.out⟩
    have HRN := Aside0.mk (HR.out)
    have HB := Aside0.mk (Kd.C_below HR.out hbl)
    have HBL := Aside0.mk hbl
    clear hR hbl HU hT e hrg hrl hb HR HF
    obtain ⟨m, hm⟩ := Int.eq_ofNat_of_zero_le hn0
    rw [hm] at hn1 HE ⊢
    clear hn0 hm
    have H2 := Aside0.mk h2
    have HM := Aside0.mk hn1
    clear h2
    by_cases h64 : 64 < m
    · clear hn1
      go_wp2
      go_ret3
      obtain rfl : F = ([], 0, 4) := by have h := HE.out; rw [if_pos (by omega)] at h; exact h.symm
      exact ⟨none, 0, rfl, Kd.C_nil _ _, Nat.le_refl _, below_alloc HBL.out _⟩
    · have hm64 : m ≤ 64 := by omega
      have H64 := Aside0.mk h64
      clear hn1 h64
      by_cases hls : (l0.length : Int) < 2 + (m : Int)
      · go_wp2
        go_ret3
        obtain rfl : F = ([], 0, 3) := by have h := HE.out; rw [if_neg (by have := H64.out; omega), if_pos hls] at h; exact h.symm
        exact ⟨none, 0, rfl, Kd.C_nil _ _, Nat.le_refl _, below_alloc HBL.out _⟩
      · have hc0 := HC0.out
        have hfe : F = ((l0.drop 2).take m, 2 + (m : Int), 0) := by have h := HE.out; rw [if_neg (by have := H64.out; omega), if_neg hls] at h; exact h.symm
        have hlen : ((l0.drop 2).take m).length = m := by rw [List.length_take, List.length_drop]; omega
        have HLEN := Aside0.mk hlen
        have hC := Kd.C_mid (lo := 2) (hi := 2 + m) (c := c0) (Kd.C_alloc HB.out (.cells #[.int .u64 (m : Int), .int .i64 0, .slice A2 0 c2, .int .i64 2, .int .i64 0] 81)) (by omega) (by omega) (by omega)
        rw [show (l0.take (2 + m)).drop 2 = (l0.drop 2).take m by rw [List.drop_take]; congr 1; omega] at hC
        have hbb := below_alloc HBL.out (.cells #[.int .u64 (m : Int), .int .i64 0, .slice A2 0 c2, .int .i64 2, .int .i64 0] 81)
        have HFE := Aside0.mk hfe
        clear HE HBL HB HRN hfe
        have HCC := Aside0.mk hC
        have HBB := Aside0.mk hbb
        clear hC hbb hlen
        by_cases hc2 : c0 = 2
        · have HC2 := Aside0.mk hc2
          obtain rfl : m = 0 := by omega
          subst hc2
          go_wp2
          go_ret3
          have h := HCC.out
          first | rw [if_pos rfl] at h | rw [if_pos trivial] at h
          obtain rfl := HFE.out
          exact ⟨A0, 0, rfl, h, by simp, HBB.out⟩
        · go_wp2
          go_ret3
          have h := HCC.out
          rw [if_neg hc2] at h
          obtain rfl := HFE.out
          refine ⟨_, c0 - 2, ?_, h, by rw [HLEN.out]; omega, HBB.out⟩
          rw [HLEN.out, show 2 + m - 2 = m by omega]
          rfl
end Go.Proofs.Ytalpemoodollpaa.P
/- What an input reads as: from a row's data down to the print's readings. -/
namespace Go.Proofs.Ytalpemoodollpaa.P
open Go.RowKit Go.ChangeShapes Go.WideShapes Go.Deep Go.Proofs.YtalpemoodollpaaW.PrintWords Go.Proofs.YtalpemoodollpaaW.PrintLast Go.Proofs.YtalpemoodollpaaW.PrintMore
set_option linter.unusedVariables false
set_option linter.unusedSimpArgs false

/-- What reads as data of type t reads as the kind K, and has R. -/
def Opens {α : Type} (t : TypeId) (K : Kd α) (R : α → Prop) : Prop :=
  ∀ {H : Type} {enc : TypeId × Value → H} {w : World} {fuel : Nat} {cs : List Value} {x : DataW H × List MemPlace}, DataW.trod enc Try.prog w 0 (fun _ => true) true fuel t cs = some x → ∃ a, K.K w a cs ∧ R a

theorem opens_int {t : TypeId} {k : IntKind} (ht : Try.prog.underlying t = some (.int k)) : Opens t (Kd.int k) (fun n => (Lit.int k n).wf = true) := by
  intro H enc w fuel cs x h
  obtain ⟨n, rfl, _, hw⟩ := DataW.trod_int ht h
  exact ⟨n, rfl, hw⟩

theorem addr_add_add (a : Addr) (i j : Nat) : (a.add i).add j = a.add (i + j) := by
  unfold Addr.add
  by_cases hi : i = 0
  · subst hi; simp
  · by_cases hj : j = 0
    · subst hj; simp [hi]
    · simp [hi, hj, Nat.add_assoc]
theorem opens_slice {α : Type} [Inhabited α] {t e e' : TypeId} {K : Kd α} {R : α → Prop} (ht : Try.prog.underlying t = some (.slice e)) (hc : Try.prog.cellsOf e = K.sz) (he : Opens e K R) :
    Opens t (Kd.slice e' K) (fun xs => ∀ x ∈ xs, R x) := by
  intro H enc w fuel cs x h
  rcases open_slice ht h with ⟨rfl, _⟩ | ⟨a, len, cap, m, n, D, Pl, rfl, hb, hl, hm, hmm, rfl, hx⟩
  · exact ⟨[], ⟨none, 0, rfl, Nat.le_refl _, rfl, by simp, fun h => absurd h (by simp)⟩, by simp⟩
  · have hmm : m = cap := by simpa using hmm
    subst hmm
    have hall : ∀ i, i < len → ∃ v : α, R v ∧ ∃ c : List Value, c.length = K.sz ∧ K.K w v c ∧ ∀ j u, c[j]? = some u → w.cell? (a.add (i * K.sz + j)) = some u := by
      intro i hi
      obtain ⟨cs', h1, h2⟩ := hx i (by omega)
      obtain ⟨v, hv, hr⟩ := he h2
      rw [hc] at h1
      obtain ⟨_, hlen, hcell⟩ := World.cells?_some h1
      refine ⟨v, hr, cs', hlen, hv, fun j u hu => ?_⟩
      have hj : j < K.sz := by
        obtain ⟨hl, _⟩ := List.getElem?_eq_some_iff.1 hu
        omega
      have := hcell j hj
      rw [hu] at this
      rw [← this, addr_add_add]
    have : ∃ f : Nat → α, ∀ i, i < len → R (f i) ∧ ∃ c : List Value, c.length = K.sz ∧ K.K w (f i) c ∧ ∀ j u, c[j]? = some u → w.cell? (a.add (i * K.sz + j)) = some u := by
      exact choose_lt hall
    obtain ⟨f, hf⟩ := this
    refine ⟨(List.range len).map f, ⟨some a, m, by simp, by simpa using hl, rfl, by simp; unfold maxLen at hm; omega, fun _ => ⟨a, rfl, fun j p hj => ?_⟩⟩, ?_⟩
    · obtain ⟨hj1, hj2⟩ := List.getElem?_eq_some_iff.1 hj
      simp at hj1 hj2
      subst hj2
      exact (hf j hj1).2
    · intro y hy
      simp at hy
      obtain ⟨i, hi, rfl⟩ := hy
      exact (hf i hi).1

instance : Inhabited S29 := ⟨z29⟩
instance : Inhabited S49 := ⟨z49⟩
instance : Inhabited S91 := ⟨z91⟩
theorem opens_bytes : Opens 30 (Kd.slice 5 (Kd.int .u8)) (fun xs => ∀ y ∈ xs, (Lit.int .u8 y).wf = true) := opens_slice Try.underlying30 (by kernel_rfl) (opens_int Try.underlying5)
def WF29 (x : S29) : Prop := (Lit.int .i64 x.f0).wf = true ∧ (Lit.int .i64 x.f1).wf = true ∧ (Lit.int .i64 x.f2).wf = true ∧ (Lit.int .i64 x.f3).wf = true ∧ (Lit.int .i64 x.f4).wf = true ∧ (Lit.int .i64 x.f5).wf = true ∧ (Lit.int .i64 x.f6).wf = true ∧ (Lit.int .i64 x.f7).wf = true ∧ (Lit.int .i64 x.f8).wf = true
set_option maxRecDepth 100000 in
theorem opens_29 : Opens 29 k29 WF29 := by
  intro H enc w fuel cs x h
  obtain ⟨xs, n, _, _, hl, hlen, hf⟩ := DataW.trod_struct Try.underlying29 h
  have hc : Try.prog.cellsOf 29 = 9 := by kernel_rfl
  rw [hc] at hl
  have hs : xs.length = 9 := hlen
  clear hlen h
  match cs, hl with
  | [c0, c1, c2, c3, c4, c5, c6, c7, c8], _ =>
    match xs, hs with
    | [x0, x1, x2, x3, x4, x5, x6, x7, x8], _ =>
      have t0 : DataW.trod enc Try.prog w 0 (fun _ => true) true n 3 (([c0, c1, c2, c3, c4, c5, c6, c7, c8].drop 0).take (Try.prog.cellsOf 3)) = [x0, x1, x2, x3, x4, x5, x6, x7, x8][0]? := hf 0 _ rfl
      rw [show Try.prog.cellsOf 3 = 1 by kernel_rfl] at t0
      replace t0 : DataW.trod enc Try.prog w 0 (fun _ => true) true n 3 [c0] = some x0 := t0
      have t1 : DataW.trod enc Try.prog w 0 (fun _ => true) true n 3 (([c0, c1, c2, c3, c4, c5, c6, c7, c8].drop 1).take (Try.prog.cellsOf 3)) = [x0, x1, x2, x3, x4, x5, x6, x7, x8][1]? := hf 1 _ rfl
      rw [show Try.prog.cellsOf 3 = 1 by kernel_rfl] at t1
      replace t1 : DataW.trod enc Try.prog w 0 (fun _ => true) true n 3 [c1] = some x1 := t1
      have t2 : DataW.trod enc Try.prog w 0 (fun _ => true) true n 2 (([c0, c1, c2, c3, c4, c5, c6, c7, c8].drop 2).take (Try.prog.cellsOf 2)) = [x0, x1, x2, x3, x4, x5, x6, x7, x8][2]? := hf 2 _ rfl
      rw [show Try.prog.cellsOf 2 = 1 by kernel_rfl] at t2
      replace t2 : DataW.trod enc Try.prog w 0 (fun _ => true) true n 2 [c2] = some x2 := t2
      have t3 : DataW.trod enc Try.prog w 0 (fun _ => true) true n 2 (([c0, c1, c2, c3, c4, c5, c6, c7, c8].drop 3).take (Try.prog.cellsOf 2)) = [x0, x1, x2, x3, x4, x5, x6, x7, x8][3]? := hf 3 _ rfl
      rw [show Try.prog.cellsOf 2 = 1 by kernel_rfl] at t3
      replace t3 : DataW.trod enc Try.prog w 0 (fun _ => true) true n 2 [c3] = some x3 := t3
      have t4 : DataW.trod enc Try.prog w 0 (fun _ => true) true n 2 (([c0, c1, c2, c3, c4, c5, c6, c7, c8].drop 4).take (Try.prog.cellsOf 2)) = [x0, x1, x2, x3, x4, x5, x6, x7, x8][4]? := hf 4 _ rfl
      rw [show Try.prog.cellsOf 2 = 1 by kernel_rfl] at t4
      replace t4 : DataW.trod enc Try.prog w 0 (fun _ => true) true n 2 [c4] = some x4 := t4
      have t5 : DataW.trod enc Try.prog w 0 (fun _ => true) true n 2 (([c0, c1, c2, c3, c4, c5, c6, c7, c8].drop 5).take (Try.prog.cellsOf 2)) = [x0, x1, x2, x3, x4, x5, x6, x7, x8][5]? := hf 5 _ rfl
      rw [show Try.prog.cellsOf 2 = 1 by kernel_rfl] at t5
      replace t5 : DataW.trod enc Try.prog w 0 (fun _ => true) true n 2 [c5] = some x5 := t5
      have t6 : DataW.trod enc Try.prog w 0 (fun _ => true) true n 2 (([c0, c1, c2, c3, c4, c5, c6, c7, c8].drop 6).take (Try.prog.cellsOf 2)) = [x0, x1, x2, x3, x4, x5, x6, x7, x8][6]? := hf 6 _ rfl
      rw [show Try.prog.cellsOf 2 = 1 by kernel_rfl] at t6
      replace t6 : DataW.trod enc Try.prog w 0 (fun _ => true) true n 2 [c6] = some x6 := t6
      have t7 : DataW.trod enc Try.prog w 0 (fun _ => true) true n 2 (([c0, c1, c2, c3, c4, c5, c6, c7, c8].drop 7).take (Try.prog.cellsOf 2)) = [x0, x1, x2, x3, x4, x5, x6, x7, x8][7]? := hf 7 _ rfl
      rw [show Try.prog.cellsOf 2 = 1 by kernel_rfl] at t7
      replace t7 : DataW.trod enc Try.prog w 0 (fun _ => true) true n 2 [c7] = some x7 := t7
      have t8 : DataW.trod enc Try.prog w 0 (fun _ => true) true n 3 (([c0, c1, c2, c3, c4, c5, c6, c7, c8].drop 8).take (Try.prog.cellsOf 3)) = [x0, x1, x2, x3, x4, x5, x6, x7, x8][8]? := hf 8 _ rfl
      rw [show Try.prog.cellsOf 3 = 1 by kernel_rfl] at t8
      replace t8 : DataW.trod enc Try.prog w 0 (fun _ => true) true n 3 [c8] = some x8 := t8
      clear hf
      obtain ⟨a0, e0, r0⟩ := opens_int (k := .i64) Try.underlying3 t0
      injection e0 with e0 _
      subst e0
      obtain ⟨a1, e1, r1⟩ := opens_int (k := .i64) Try.underlying3 t1
      injection e1 with e1 _
      subst e1
      obtain ⟨a2, e2, r2⟩ := opens_int (k := .i64) Try.underlying2 t2
      injection e2 with e2 _
      subst e2
      obtain ⟨a3, e3, r3⟩ := opens_int (k := .i64) Try.underlying2 t3
      injection e3 with e3 _
      subst e3
      obtain ⟨a4, e4, r4⟩ := opens_int (k := .i64) Try.underlying2 t4
      injection e4 with e4 _
      subst e4
      obtain ⟨a5, e5, r5⟩ := opens_int (k := .i64) Try.underlying2 t5
      injection e5 with e5 _
      subst e5
      obtain ⟨a6, e6, r6⟩ := opens_int (k := .i64) Try.underlying2 t6
      injection e6 with e6 _
      subst e6
      obtain ⟨a7, e7, r7⟩ := opens_int (k := .i64) Try.underlying2 t7
      injection e7 with e7 _
      subst e7
      obtain ⟨a8, e8, r8⟩ := opens_int (k := .i64) Try.underlying3 t8
      injection e8 with e8 _
      subst e8
      exact ⟨⟨a0, a1, a2, a3, a4, a5, a6, a7, a8⟩, k29_mk w _, r0 , r1 , r2 , r3 , r4 , r5 , r6 , r7 , r8⟩
def WF49 (x : S49) : Prop := (Lit.int .i64 x.f0).wf = true ∧ (Lit.int .i64 x.f1).wf = true ∧ (Lit.int .u64 x.f2).wf = true ∧ (Lit.int .i64 x.f3).wf = true ∧ (∀ y ∈ x.f4, (Lit.int .u8 y).wf = true)
set_option maxRecDepth 100000 in
theorem opens_49 : Opens 49 k49 WF49 := by
  intro H enc w fuel cs x h
  obtain ⟨xs, n, _, _, hl, hlen, hf⟩ := DataW.trod_struct Try.underlying49 h
  have hc : Try.prog.cellsOf 49 = 5 := by kernel_rfl
  rw [hc] at hl
  have hs : xs.length = 5 := hlen
  clear hlen h
  match cs, hl with
  | [c0, c1, c2, c3, c4], _ =>
    match xs, hs with
    | [x0, x1, x2, x3, x4], _ =>
      have t0 : DataW.trod enc Try.prog w 0 (fun _ => true) true n 3 (([c0, c1, c2, c3, c4].drop 0).take (Try.prog.cellsOf 3)) = [x0, x1, x2, x3, x4][0]? := hf 0 _ rfl
      rw [show Try.prog.cellsOf 3 = 1 by kernel_rfl] at t0
      replace t0 : DataW.trod enc Try.prog w 0 (fun _ => true) true n 3 [c0] = some x0 := t0
      have t1 : DataW.trod enc Try.prog w 0 (fun _ => true) true n 3 (([c0, c1, c2, c3, c4].drop 1).take (Try.prog.cellsOf 3)) = [x0, x1, x2, x3, x4][1]? := hf 1 _ rfl
      rw [show Try.prog.cellsOf 3 = 1 by kernel_rfl] at t1
      replace t1 : DataW.trod enc Try.prog w 0 (fun _ => true) true n 3 [c1] = some x1 := t1
      have t2 : DataW.trod enc Try.prog w 0 (fun _ => true) true n 37 (([c0, c1, c2, c3, c4].drop 2).take (Try.prog.cellsOf 37)) = [x0, x1, x2, x3, x4][2]? := hf 2 _ rfl
      rw [show Try.prog.cellsOf 37 = 1 by kernel_rfl] at t2
      replace t2 : DataW.trod enc Try.prog w 0 (fun _ => true) true n 37 [c2] = some x2 := t2
      have t3 : DataW.trod enc Try.prog w 0 (fun _ => true) true n 2 (([c0, c1, c2, c3, c4].drop 3).take (Try.prog.cellsOf 2)) = [x0, x1, x2, x3, x4][3]? := hf 3 _ rfl
      rw [show Try.prog.cellsOf 2 = 1 by kernel_rfl] at t3
      replace t3 : DataW.trod enc Try.prog w 0 (fun _ => true) true n 2 [c3] = some x3 := t3
      have t4 : DataW.trod enc Try.prog w 0 (fun _ => true) true n 30 (([c0, c1, c2, c3, c4].drop 4).take (Try.prog.cellsOf 30)) = [x0, x1, x2, x3, x4][4]? := hf 4 _ rfl
      rw [show Try.prog.cellsOf 30 = 1 by kernel_rfl] at t4
      replace t4 : DataW.trod enc Try.prog w 0 (fun _ => true) true n 30 [c4] = some x4 := t4
      clear hf
      obtain ⟨a0, e0, r0⟩ := opens_int (k := .i64) Try.underlying3 t0
      injection e0 with e0 _
      subst e0
      obtain ⟨a1, e1, r1⟩ := opens_int (k := .i64) Try.underlying3 t1
      injection e1 with e1 _
      subst e1
      obtain ⟨a2, e2, r2⟩ := opens_int (k := .u64) Try.underlying37 t2
      injection e2 with e2 _
      subst e2
      obtain ⟨a3, e3, r3⟩ := opens_int (k := .i64) Try.underlying2 t3
      injection e3 with e3 _
      subst e3
      obtain ⟨a4, ⟨A4, cc4, e4, l4, g4⟩, r4⟩ := opens_bytes t4
      injection e4 with e4 _
      subst e4
      exact ⟨⟨a0, a1, a2, a3, a4⟩, k49_mk w _ l4 g4, r0 , r1 , r2 , r3 , r4⟩
def WF91 (x : S91) : Prop := (Lit.int .i64 x.f0).wf = true ∧ (Lit.int .i64 x.f1).wf = true ∧ (Lit.int .i64 x.f2).wf = true ∧ (∀ y ∈ x.f3, (Lit.int .u8 y).wf = true)
set_option maxRecDepth 100000 in
theorem opens_91 : Opens 91 k91 WF91 := by
  intro H enc w fuel cs x h
  obtain ⟨xs, n, _, _, hl, hlen, hf⟩ := DataW.trod_struct Try.underlying91 h
  have hc : Try.prog.cellsOf 91 = 4 := by kernel_rfl
  rw [hc] at hl
  have hs : xs.length = 4 := hlen
  clear hlen h
  match cs, hl with
  | [c0, c1, c2, c3], _ =>
    match xs, hs with
    | [x0, x1, x2, x3], _ =>
      have t0 : DataW.trod enc Try.prog w 0 (fun _ => true) true n 3 (([c0, c1, c2, c3].drop 0).take (Try.prog.cellsOf 3)) = [x0, x1, x2, x3][0]? := hf 0 _ rfl
      rw [show Try.prog.cellsOf 3 = 1 by kernel_rfl] at t0
      replace t0 : DataW.trod enc Try.prog w 0 (fun _ => true) true n 3 [c0] = some x0 := t0
      have t1 : DataW.trod enc Try.prog w 0 (fun _ => true) true n 3 (([c0, c1, c2, c3].drop 1).take (Try.prog.cellsOf 3)) = [x0, x1, x2, x3][1]? := hf 1 _ rfl
      rw [show Try.prog.cellsOf 3 = 1 by kernel_rfl] at t1
      replace t1 : DataW.trod enc Try.prog w 0 (fun _ => true) true n 3 [c1] = some x1 := t1
      have t2 : DataW.trod enc Try.prog w 0 (fun _ => true) true n 2 (([c0, c1, c2, c3].drop 2).take (Try.prog.cellsOf 2)) = [x0, x1, x2, x3][2]? := hf 2 _ rfl
      rw [show Try.prog.cellsOf 2 = 1 by kernel_rfl] at t2
      replace t2 : DataW.trod enc Try.prog w 0 (fun _ => true) true n 2 [c2] = some x2 := t2
      have t3 : DataW.trod enc Try.prog w 0 (fun _ => true) true n 30 (([c0, c1, c2, c3].drop 3).take (Try.prog.cellsOf 30)) = [x0, x1, x2, x3][3]? := hf 3 _ rfl
      rw [show Try.prog.cellsOf 30 = 1 by kernel_rfl] at t3
      replace t3 : DataW.trod enc Try.prog w 0 (fun _ => true) true n 30 [c3] = some x3 := t3
      clear hf
      obtain ⟨a0, e0, r0⟩ := opens_int (k := .i64) Try.underlying3 t0
      injection e0 with e0 _
      subst e0
      obtain ⟨a1, e1, r1⟩ := opens_int (k := .i64) Try.underlying3 t1
      injection e1 with e1 _
      subst e1
      obtain ⟨a2, e2, r2⟩ := opens_int (k := .i64) Try.underlying2 t2
      injection e2 with e2 _
      subst e2
      obtain ⟨a3, ⟨A3, cc3, e3, l3, g3⟩, r3⟩ := opens_bytes t3
      injection e3 with e3 _
      subst e3
      exact ⟨⟨a0, a1, a2, a3⟩, k91_mk w _ l3 g3, r0 , r1 , r2 , r3⟩
set_option maxRecDepth 100000 in
theorem opened_29 {H : Type} {enc : TypeId × Value → H} {w : World} {fuel : Nat} {cs : List Value} {x : DataW H × List MemPlace} (h : DataW.trod enc Try.prog w 0 (fun _ => true) true fuel 29 cs = some x) : ∃ a0 a1 a2 a3 a4 a5 a6 a7 a8 : Int, cs = [.int .i64 a0, .int .i64 a1, .int .i64 a2, .int .i64 a3, .int .i64 a4, .int .i64 a5, .int .i64 a6, .int .i64 a7, .int .i64 a8] ∧ (Lit.int .i64 a0).wf = true ∧ (Lit.int .i64 a1).wf = true ∧ (Lit.int .i64 a2).wf = true ∧ (Lit.int .i64 a3).wf = true ∧ (Lit.int .i64 a4).wf = true ∧ (Lit.int .i64 a5).wf = true ∧ (Lit.int .i64 a6).wf = true ∧ (Lit.int .i64 a7).wf = true ∧ (Lit.int .i64 a8).wf = true := by
  obtain ⟨xs, n, _, _, hl, hlen, hf⟩ := DataW.trod_struct Try.underlying29 h
  have hc : Try.prog.cellsOf 29 = 9 := by kernel_rfl
  rw [hc] at hl
  have hs : xs.length = 9 := hlen
  clear hlen h
  match cs, hl with
  | [c0, c1, c2, c3, c4, c5, c6, c7, c8], _ =>
    match xs, hs with
    | [x0, x1, x2, x3, x4, x5, x6, x7, x8], _ =>
      have t0 : DataW.trod enc Try.prog w 0 (fun _ => true) true n 3 (([c0, c1, c2, c3, c4, c5, c6, c7, c8].drop 0).take (Try.prog.cellsOf 3)) = [x0, x1, x2, x3, x4, x5, x6, x7, x8][0]? := hf 0 _ rfl
      rw [show Try.prog.cellsOf 3 = 1 by kernel_rfl] at t0
      replace t0 : DataW.trod enc Try.prog w 0 (fun _ => true) true n 3 [c0] = some x0 := t0
      have t1 : DataW.trod enc Try.prog w 0 (fun _ => true) true n 3 (([c0, c1, c2, c3, c4, c5, c6, c7, c8].drop 1).take (Try.prog.cellsOf 3)) = [x0, x1, x2, x3, x4, x5, x6, x7, x8][1]? := hf 1 _ rfl
      rw [show Try.prog.cellsOf 3 = 1 by kernel_rfl] at t1
      replace t1 : DataW.trod enc Try.prog w 0 (fun _ => true) true n 3 [c1] = some x1 := t1
      have t2 : DataW.trod enc Try.prog w 0 (fun _ => true) true n 2 (([c0, c1, c2, c3, c4, c5, c6, c7, c8].drop 2).take (Try.prog.cellsOf 2)) = [x0, x1, x2, x3, x4, x5, x6, x7, x8][2]? := hf 2 _ rfl
      rw [show Try.prog.cellsOf 2 = 1 by kernel_rfl] at t2
      replace t2 : DataW.trod enc Try.prog w 0 (fun _ => true) true n 2 [c2] = some x2 := t2
      have t3 : DataW.trod enc Try.prog w 0 (fun _ => true) true n 2 (([c0, c1, c2, c3, c4, c5, c6, c7, c8].drop 3).take (Try.prog.cellsOf 2)) = [x0, x1, x2, x3, x4, x5, x6, x7, x8][3]? := hf 3 _ rfl
      rw [show Try.prog.cellsOf 2 = 1 by kernel_rfl] at t3
      replace t3 : DataW.trod enc Try.prog w 0 (fun _ => true) true n 2 [c3] = some x3 := t3
      have t4 : DataW.trod enc Try.prog w 0 (fun _ => true) true n 2 (([c0, c1, c2, c3, c4, c5, c6, c7, c8].drop 4).take (Try.prog.cellsOf 2)) = [x0, x1, x2, x3, x4, x5, x6, x7, x8][4]? := hf 4 _ rfl
      rw [show Try.prog.cellsOf 2 = 1 by kernel_rfl] at t4
      replace t4 : DataW.trod enc Try.prog w 0 (fun _ => true) true n 2 [c4] = some x4 := t4
      have t5 : DataW.trod enc Try.prog w 0 (fun _ => true) true n 2 (([c0, c1, c2, c3, c4, c5, c6, c7, c8].drop 5).take (Try.prog.cellsOf 2)) = [x0, x1, x2, x3, x4, x5, x6, x7, x8][5]? := hf 5 _ rfl
      rw [show Try.prog.cellsOf 2 = 1 by kernel_rfl] at t5
      replace t5 : DataW.trod enc Try.prog w 0 (fun _ => true) true n 2 [c5] = some x5 := t5
      have t6 : DataW.trod enc Try.prog w 0 (fun _ => true) true n 2 (([c0, c1, c2, c3, c4, c5, c6, c7, c8].drop 6).take (Try.prog.cellsOf 2)) = [x0, x1, x2, x3, x4, x5, x6, x7, x8][6]? := hf 6 _ rfl
      rw [show Try.prog.cellsOf 2 = 1 by kernel_rfl] at t6
      replace t6 : DataW.trod enc Try.prog w 0 (fun _ => true) true n 2 [c6] = some x6 := t6
      have t7 : DataW.trod enc Try.prog w 0 (fun _ => true) true n 2 (([c0, c1, c2, c3, c4, c5, c6, c7, c8].drop 7).take (Try.prog.cellsOf 2)) = [x0, x1, x2, x3, x4, x5, x6, x7, x8][7]? := hf 7 _ rfl
      rw [show Try.prog.cellsOf 2 = 1 by kernel_rfl] at t7
      replace t7 : DataW.trod enc Try.prog w 0 (fun _ => true) true n 2 [c7] = some x7 := t7
      have t8 : DataW.trod enc Try.prog w 0 (fun _ => true) true n 3 (([c0, c1, c2, c3, c4, c5, c6, c7, c8].drop 8).take (Try.prog.cellsOf 3)) = [x0, x1, x2, x3, x4, x5, x6, x7, x8][8]? := hf 8 _ rfl
      rw [show Try.prog.cellsOf 3 = 1 by kernel_rfl] at t8
      replace t8 : DataW.trod enc Try.prog w 0 (fun _ => true) true n 3 [c8] = some x8 := t8
      clear hf
      obtain ⟨a0, e0, r0⟩ := opens_int (k := .i64) Try.underlying3 t0
      injection e0 with e0 _
      subst e0
      obtain ⟨a1, e1, r1⟩ := opens_int (k := .i64) Try.underlying3 t1
      injection e1 with e1 _
      subst e1
      obtain ⟨a2, e2, r2⟩ := opens_int (k := .i64) Try.underlying2 t2
      injection e2 with e2 _
      subst e2
      obtain ⟨a3, e3, r3⟩ := opens_int (k := .i64) Try.underlying2 t3
      injection e3 with e3 _
      subst e3
      obtain ⟨a4, e4, r4⟩ := opens_int (k := .i64) Try.underlying2 t4
      injection e4 with e4 _
      subst e4
      obtain ⟨a5, e5, r5⟩ := opens_int (k := .i64) Try.underlying2 t5
      injection e5 with e5 _
      subst e5
      obtain ⟨a6, e6, r6⟩ := opens_int (k := .i64) Try.underlying2 t6
      injection e6 with e6 _
      subst e6
      obtain ⟨a7, e7, r7⟩ := opens_int (k := .i64) Try.underlying2 t7
      injection e7 with e7 _
      subst e7
      obtain ⟨a8, e8, r8⟩ := opens_int (k := .i64) Try.underlying3 t8
      injection e8 with e8 _
      subst e8
      exact ⟨a0, a1, a2, a3, a4, a5, a6, a7, a8, rfl, r0, r1, r2, r3, r4, r5, r6, r7, r8⟩
set_option maxRecDepth 100000 in
theorem opened_95 {H : Type} {enc : TypeId × Value → H} {w : World} {fuel : Nat} {cs : List Value} {x : DataW H × List MemPlace} (h : DataW.trod enc Try.prog w 0 (fun _ => true) true fuel 95 cs = some x) : ∃ a0 a1 a2 a3 a4 a5 a6 a7 a8 : Int, cs = [.int .i64 a0, .int .i64 a1, .int .i64 a2, .int .i64 a3, .int .i64 a4, .int .i64 a5, .int .i64 a6, .int .i64 a7, .int .i64 a8] ∧ (Lit.int .i64 a0).wf = true ∧ (Lit.int .i64 a1).wf = true ∧ (Lit.int .i64 a2).wf = true ∧ (Lit.int .i64 a3).wf = true ∧ (Lit.int .i64 a4).wf = true ∧ (Lit.int .i64 a5).wf = true ∧ (Lit.int .i64 a6).wf = true ∧ (Lit.int .i64 a7).wf = true ∧ (Lit.int .i64 a8).wf = true := by
  obtain ⟨xs, n, _, _, hl, hlen, hf⟩ := DataW.trod_struct Try.underlying95 h
  have hc : Try.prog.cellsOf 95 = 9 := by kernel_rfl
  rw [hc] at hl
  have hs : xs.length = 9 := hlen
  clear hlen h
  match cs, hl with
  | [c0, c1, c2, c3, c4, c5, c6, c7, c8], _ =>
    match xs, hs with
    | [x0, x1, x2, x3, x4, x5, x6, x7, x8], _ =>
      have t0 : DataW.trod enc Try.prog w 0 (fun _ => true) true n 3 (([c0, c1, c2, c3, c4, c5, c6, c7, c8].drop 0).take (Try.prog.cellsOf 3)) = [x0, x1, x2, x3, x4, x5, x6, x7, x8][0]? := hf 0 _ rfl
      rw [show Try.prog.cellsOf 3 = 1 by kernel_rfl] at t0
      replace t0 : DataW.trod enc Try.prog w 0 (fun _ => true) true n 3 [c0] = some x0 := t0
      have t1 : DataW.trod enc Try.prog w 0 (fun _ => true) true n 3 (([c0, c1, c2, c3, c4, c5, c6, c7, c8].drop 1).take (Try.prog.cellsOf 3)) = [x0, x1, x2, x3, x4, x5, x6, x7, x8][1]? := hf 1 _ rfl
      rw [show Try.prog.cellsOf 3 = 1 by kernel_rfl] at t1
      replace t1 : DataW.trod enc Try.prog w 0 (fun _ => true) true n 3 [c1] = some x1 := t1
      have t2 : DataW.trod enc Try.prog w 0 (fun _ => true) true n 2 (([c0, c1, c2, c3, c4, c5, c6, c7, c8].drop 2).take (Try.prog.cellsOf 2)) = [x0, x1, x2, x3, x4, x5, x6, x7, x8][2]? := hf 2 _ rfl
      rw [show Try.prog.cellsOf 2 = 1 by kernel_rfl] at t2
      replace t2 : DataW.trod enc Try.prog w 0 (fun _ => true) true n 2 [c2] = some x2 := t2
      have t3 : DataW.trod enc Try.prog w 0 (fun _ => true) true n 3 (([c0, c1, c2, c3, c4, c5, c6, c7, c8].drop 3).take (Try.prog.cellsOf 3)) = [x0, x1, x2, x3, x4, x5, x6, x7, x8][3]? := hf 3 _ rfl
      rw [show Try.prog.cellsOf 3 = 1 by kernel_rfl] at t3
      replace t3 : DataW.trod enc Try.prog w 0 (fun _ => true) true n 3 [c3] = some x3 := t3
      have t4 : DataW.trod enc Try.prog w 0 (fun _ => true) true n 3 (([c0, c1, c2, c3, c4, c5, c6, c7, c8].drop 4).take (Try.prog.cellsOf 3)) = [x0, x1, x2, x3, x4, x5, x6, x7, x8][4]? := hf 4 _ rfl
      rw [show Try.prog.cellsOf 3 = 1 by kernel_rfl] at t4
      replace t4 : DataW.trod enc Try.prog w 0 (fun _ => true) true n 3 [c4] = some x4 := t4
      have t5 : DataW.trod enc Try.prog w 0 (fun _ => true) true n 3 (([c0, c1, c2, c3, c4, c5, c6, c7, c8].drop 5).take (Try.prog.cellsOf 3)) = [x0, x1, x2, x3, x4, x5, x6, x7, x8][5]? := hf 5 _ rfl
      rw [show Try.prog.cellsOf 3 = 1 by kernel_rfl] at t5
      replace t5 : DataW.trod enc Try.prog w 0 (fun _ => true) true n 3 [c5] = some x5 := t5
      have t6 : DataW.trod enc Try.prog w 0 (fun _ => true) true n 2 (([c0, c1, c2, c3, c4, c5, c6, c7, c8].drop 6).take (Try.prog.cellsOf 2)) = [x0, x1, x2, x3, x4, x5, x6, x7, x8][6]? := hf 6 _ rfl
      rw [show Try.prog.cellsOf 2 = 1 by kernel_rfl] at t6
      replace t6 : DataW.trod enc Try.prog w 0 (fun _ => true) true n 2 [c6] = some x6 := t6
      have t7 : DataW.trod enc Try.prog w 0 (fun _ => true) true n 2 (([c0, c1, c2, c3, c4, c5, c6, c7, c8].drop 7).take (Try.prog.cellsOf 2)) = [x0, x1, x2, x3, x4, x5, x6, x7, x8][7]? := hf 7 _ rfl
      rw [show Try.prog.cellsOf 2 = 1 by kernel_rfl] at t7
      replace t7 : DataW.trod enc Try.prog w 0 (fun _ => true) true n 2 [c7] = some x7 := t7
      have t8 : DataW.trod enc Try.prog w 0 (fun _ => true) true n 3 (([c0, c1, c2, c3, c4, c5, c6, c7, c8].drop 8).take (Try.prog.cellsOf 3)) = [x0, x1, x2, x3, x4, x5, x6, x7, x8][8]? := hf 8 _ rfl
      rw [show Try.prog.cellsOf 3 = 1 by kernel_rfl] at t8
      replace t8 : DataW.trod enc Try.prog w 0 (fun _ => true) true n 3 [c8] = some x8 := t8
      clear hf
      obtain ⟨a0, e0, r0⟩ := opens_int (k := .i64) Try.underlying3 t0
      injection e0 with e0 _
      subst e0
      obtain ⟨a1, e1, r1⟩ := opens_int (k := .i64) Try.underlying3 t1
      injection e1 with e1 _
      subst e1
      obtain ⟨a2, e2, r2⟩ := opens_int (k := .i64) Try.underlying2 t2
      injection e2 with e2 _
      subst e2
      obtain ⟨a3, e3, r3⟩ := opens_int (k := .i64) Try.underlying3 t3
      injection e3 with e3 _
      subst e3
      obtain ⟨a4, e4, r4⟩ := opens_int (k := .i64) Try.underlying3 t4
      injection e4 with e4 _
      subst e4
      obtain ⟨a5, e5, r5⟩ := opens_int (k := .i64) Try.underlying3 t5
      injection e5 with e5 _
      subst e5
      obtain ⟨a6, e6, r6⟩ := opens_int (k := .i64) Try.underlying2 t6
      injection e6 with e6 _
      subst e6
      obtain ⟨a7, e7, r7⟩ := opens_int (k := .i64) Try.underlying2 t7
      injection e7 with e7 _
      subst e7
      obtain ⟨a8, e8, r8⟩ := opens_int (k := .i64) Try.underlying3 t8
      injection e8 with e8 _
      subst e8
      exact ⟨a0, a1, a2, a3, a4, a5, a6, a7, a8, rfl, r0, r1, r2, r3, r4, r5, r6, r7, r8⟩
set_option maxRecDepth 100000 in
theorem open_arg29 {H : Type} {enc : TypeId × Value → H} {w : World} {r : Reach} {b0 : Nat} {v : Value} {d : DataW H} {ps : List MemPlace} (hval : Value.okWide Try.prog w r b0 29 v) (hd : DataW.Trod enc Try.prog w 0 (fun _ => true) true 29 v d ps) :
    ∃ a0 a1 a2 a3 a4 a5 a6 a7 a8 : Int, v = .agg #[.int .i64 a0, .int .i64 a1, .int .i64 a2, .int .i64 a3, .int .i64 a4, .int .i64 a5, .int .i64 a6, .int .i64 a7, .int .i64 a8] ∧ (Lit.int .i64 a0).wf = true ∧ (Lit.int .i64 a1).wf = true ∧ (Lit.int .i64 a2).wf = true ∧ (Lit.int .i64 a3).wf = true ∧ (Lit.int .i64 a4).wf = true ∧ (Lit.int .i64 a5).wf = true ∧ (Lit.int .i64 a6).wf = true ∧ (Lit.int .i64 a7).wf = true ∧ (Lit.int .i64 a8).wf = true := by
  have hv := hval
  unfold Value.okWide at hv
  rw [Try.underlying29] at hv
  obtain ⟨cs, rfl, _, _⟩ := hv
  obtain ⟨fuel, hf⟩ := hd
  obtain ⟨a0, a1, a2, a3, a4, a5, a6, a7, a8, hc, hw⟩ := opened_29 hf
  refine ⟨a0, a1, a2, a3, a4, a5, a6, a7, a8, ?_, hw⟩
  have : cs = #[.int .i64 a0, .int .i64 a1, .int .i64 a2, .int .i64 a3, .int .i64 a4, .int .i64 a5, .int .i64 a6, .int .i64 a7, .int .i64 a8] := by
    apply Array.toList_inj.1
    exact hc
  rw [this]
set_option maxRecDepth 100000 in
theorem open_arg95 {H : Type} {enc : TypeId × Value → H} {w : World} {r : Reach} {b0 : Nat} {v : Value} {d : DataW H} {ps : List MemPlace} (hval : Value.okWide Try.prog w r b0 95 v) (hd : DataW.Trod enc Try.prog w 0 (fun _ => true) true 95 v d ps) :
    ∃ a0 a1 a2 a3 a4 a5 a6 a7 a8 : Int, v = .agg #[.int .i64 a0, .int .i64 a1, .int .i64 a2, .int .i64 a3, .int .i64 a4, .int .i64 a5, .int .i64 a6, .int .i64 a7, .int .i64 a8] ∧ (Lit.int .i64 a0).wf = true ∧ (Lit.int .i64 a1).wf = true ∧ (Lit.int .i64 a2).wf = true ∧ (Lit.int .i64 a3).wf = true ∧ (Lit.int .i64 a4).wf = true ∧ (Lit.int .i64 a5).wf = true ∧ (Lit.int .i64 a6).wf = true ∧ (Lit.int .i64 a7).wf = true ∧ (Lit.int .i64 a8).wf = true := by
  have hv := hval
  unfold Value.okWide at hv
  rw [Try.underlying95] at hv
  obtain ⟨cs, rfl, _, _⟩ := hv
  obtain ⟨fuel, hf⟩ := hd
  obtain ⟨a0, a1, a2, a3, a4, a5, a6, a7, a8, hc, hw⟩ := opened_95 hf
  refine ⟨a0, a1, a2, a3, a4, a5, a6, a7, a8, ?_, hw⟩
  have : cs = #[.int .i64 a0, .int .i64 a1, .int .i64 a2, .int .i64 a3, .int .i64 a4, .int .i64 a5, .int .i64 a6, .int .i64 a7, .int .i64 a8] := by
    apply Array.toList_inj.1
    exact hc
  rw [this]
theorem opens_msgs : Opens 22 (Kd.slice 29 k29) (fun xs => ∀ x ∈ xs, WF29 x) := opens_slice Try.underlying22 (by kernel_rfl) opens_29
theorem opens_parts : Opens 45 (Kd.slice 49 k49) (fun xs => ∀ x ∈ xs, WF49 x) := opens_slice Try.underlying45 (by kernel_rfl) opens_49
theorem opens_steps : Opens 54 (Kd.slice 91 k91) (fun xs => ∀ x ∈ xs, WF91 x) := opens_slice Try.underlying54 (by kernel_rfl) opens_91
theorem opens_rows : Opens 62 (Kd.slice 30 (Kd.slice 5 (Kd.int .u8))) (fun xs => ∀ x ∈ xs, ∀ y ∈ x, (Lit.int .u8 y).wf = true) := opens_slice Try.underlying62 (by kernel_rfl) opens_bytes
theorem opens_ints : Opens 61 (Kd.slice 3 (Kd.int .i64)) (fun xs => ∀ x ∈ xs, (Lit.int .i64 x).wf = true) := opens_slice Try.underlying61 (by kernel_rfl) (opens_int Try.underlying3)
-- A slice that is handed in.
set_option maxRecDepth 100000 in
theorem open_arg_slice {α : Type} {t e e' : TypeId} {K : Kd α} {R : α → Prop} (ht : Try.prog.underlying t = some (.slice e)) (ho : Opens t (Kd.slice e' K) (fun xs => ∀ x ∈ xs, R x))
    {H : Type} {enc : TypeId × Value → H} {w : World} {r : Reach} {b0 : Nat} {v : Value} {d : DataW H} {ps : List MemPlace} (hval : Value.okWide Try.prog w r b0 t v) (hd : DataW.Trod enc Try.prog w 0 (fun _ => true) true t v d ps) :
    ∃ (A : Option Addr) (c : Nat) (xs : List α), v = .slice A xs.length c ∧ xs.length ≤ c ∧ K.C w A xs.length xs ∧ (∀ x ∈ xs, R x) ∧ ∀ y ∈ ps, y.block < w.heap.size := by
  obtain ⟨A, l, c, rfl⟩ := okWide_slice ht hval
  have hlt : ∀ y ∈ ps, y.block < w.heap.size := by obtain ⟨m, hm⟩ := hd; exact DataW.trod_lt m _ _ _ hm
  obtain ⟨fuel, hf⟩ := hd
  obtain ⟨xs, ⟨A', c', hc, hl, hC⟩, hr⟩ := ho hf
  simp [Value.cells] at hc
  obtain ⟨rfl, rfl, rfl⟩ := hc
  exact ⟨_, _, xs, rfl, hl, hC, hr, hlt⟩
end Go.Proofs.Ytalpemoodollpaa.P
-- Printed by hookprint.py (the session's own program, over the kit's print.py): checked by Lean like any text.
namespace Go.Proofs.Ytalpemoodollpaa.P
open Go.RowKit Go.Proofs.YtalpemoodollpaaW.PrintWords Go.Proofs.YtalpemoodollpaaW.PrintLast Go.Proofs.YtalpemoodollpaaW.PrintMore
attribute [local go_sem] max2_int min2_int max_two min_two max_three min_three max_four min_four   -- for this text's walks alone
set_option linter.unusedVariables false
set_option linter.unusedSimpArgs false

/-! ### damperlaw04_alive: function 43 -/
def damperlaw04_alive.f  : Option (Bool) := (frame_Put.f (([7] : List Int))).bind fun bt252 => ((frame_Take.f bt252.1).bind fun bt256 => (if bt252.2 = 0 then (if bt256.2.2 = 0 then (if (bt252.1.length : Int) = 3 then (if 1 < (bt252.1.length : Int) then (if (rd bt252.1 1) = 1 then (if bt256.2.1 = 3 then (if (bt256.1.length : Int) = 1 then (if 0 < (bt256.1.length : Int) then (some ((rd bt256.1 0) == 7)) else (none)) else (some false)) else (some false)) else (some false)) else (none)) else (some false)) else (some false)) else (some false)))
set_option maxHeartbeats 8000000 in
set_option maxRecDepth 100000 in
theorem damperlaw04_alive.calls  (r : Bool) (w : World) (h : damperlaw04_alive.f  = some r) :
    Calls Try.prog 43 #[] w fun e w' => e = .returned (.bool r) ∧ Below w.heap.size w w' := by
  have HB := Aside0.mk (Below.refl w.heap.size w)
  have H : ((frame_Put.f (([7] : List Int))).bind fun bt252 => ((frame_Take.f bt252.1).bind fun bt256 => (if bt252.2 = 0 then (if bt256.2.2 = 0 then (if (bt252.1.length : Int) = 3 then (if 1 < (bt252.1.length : Int) then (if (rd bt252.1 1) = 1 then (if bt256.2.1 = 3 then (if (bt256.1.length : Int) = 1 then (if 0 < (bt256.1.length : Int) then (some ((rd bt256.1 0) == 7)) else (none)) else (some false)) else (some false)) else (some false)) else (none)) else (some false)) else (some false)) else (some false)))) = some r := h
  clear h
  obtain ⟨y249, hy249⟩ : ∃ y_ : List Int, y_ = (([7] : List Int)) := ⟨_, rfl⟩
  replace H : ((frame_Put.f y249).bind fun bt252 => ((frame_Take.f bt252.1).bind fun bt256 => (if bt252.2 = 0 then (if bt256.2.2 = 0 then (if (bt252.1.length : Int) = 3 then (if 1 < (bt252.1.length : Int) then (if (rd bt252.1 1) = 1 then (if bt256.2.1 = 3 then (if (bt256.1.length : Int) = 1 then (if 0 < (bt256.1.length : Int) then (some ((rd bt256.1 0) == 7)) else (none)) else (some false)) else (some false)) else (some false)) else (none)) else (some false)) else (some false)) else (some false)))) = some r := by first | (rw [hy249]; with_reducible exact H) | (have H2_ := (Option.bind_some _ _).symm.trans H; rw [hy249]; with_reducible exact H2_) | (have H2_ := (Option.bind_some _ _).symm.trans H; with_reducible exact H2_) | with_reducible exact H | (rw [hy249]; exact H) | exact H
  have Ny249 := Aside0.mk hy249
  clear hy249
  replace H := Option.bind_eq_some_iff.mp H
  obtain ⟨⟨t252, t253⟩, A10, H⟩ := H
  replace H : ((frame_Take.f t252).bind fun bt256 => (if t253 = 0 then (if bt256.2.2 = 0 then (if (t252.length : Int) = 3 then (if 1 < (t252.length : Int) then (if (rd t252 1) = 1 then (if bt256.2.1 = 3 then (if (bt256.1.length : Int) = 1 then (if 0 < (bt256.1.length : Int) then (some ((rd bt256.1 0) == 7)) else (none)) else (some false)) else (some false)) else (some false)) else (none)) else (some false)) else (some false)) else (some false))) = some r := H
  have A1 := Aside0.mk A10
  clear A10
  replace H := Option.bind_eq_some_iff.mp H
  obtain ⟨⟨t256, t257, t258⟩, A20, H⟩ := H
  replace H : (if t253 = 0 then (if t258 = 0 then (if (t252.length : Int) = 3 then (if 1 < (t252.length : Int) then (if (rd t252 1) = 1 then (if t257 = 3 then (if (t256.length : Int) = 1 then (if 0 < (t256.length : Int) then (some ((rd t256 0) == 7)) else (none)) else (some false)) else (some false)) else (some false)) else (none)) else (some false)) else (some false)) else (some false)) = some r := H
  have A2 := Aside0.mk A20
  clear A20
  by_cases c3 : t253 = 0
  · rw [if_pos c3] at H
    have c3b0 : (t253 == 0) = true := beq_iff_eq.mpr c3
    have c3b1 : (t253 != 0) = false := bne_eq_false_iff_eq.mpr c3
    clear c3
    by_cases c4 : t258 = 0
    · rw [if_pos c4] at H
      have c4b0 : (t258 == 0) = true := beq_iff_eq.mpr c4
      have c4b1 : (t258 != 0) = false := bne_eq_false_iff_eq.mpr c4
      clear c4
      by_cases c5 : (t252.length : Int) = 3
      · rw [if_pos c5] at H
        have c5b0 : ((t252.length : Int) == 3) = true := beq_iff_eq.mpr c5
        have c5b1 : ((t252.length : Int) != 3) = false := bne_eq_false_iff_eq.mpr c5
        clear c5
        by_cases c6 : 1 < (t252.length : Int)
        · rw [if_pos c6] at H
          have c6b0 : decide (1 < (t252.length : Int)) = true := decide_eq_true c6
          have c6b1 : decide (1 < t252.length) = true := decide_eq_true (by omega)
          clear c6
          by_cases c7 : (rd t252 1) = 1
          · rw [if_pos c7] at H
            have c7b0 : ((rd t252 1) == 1) = true := beq_iff_eq.mpr c7
            have c7b1 : ((rd t252 1) != 1) = false := bne_eq_false_iff_eq.mpr c7
            clear c7
            by_cases c8 : t257 = 3
            · rw [if_pos c8] at H
              have c8b0 : (t257 == 3) = true := beq_iff_eq.mpr c8
              have c8b1 : (t257 != 3) = false := bne_eq_false_iff_eq.mpr c8
              clear c8
              by_cases c9 : (t256.length : Int) = 1
              · rw [if_pos c9] at H
                have c9b0 : ((t256.length : Int) == 1) = true := beq_iff_eq.mpr c9
                have c9b1 : ((t256.length : Int) != 1) = false := bne_eq_false_iff_eq.mpr c9
                clear c9
                by_cases c10 : 0 < (t256.length : Int)
                · rw [if_pos c10] at H
                  have c10b0 : decide (0 < (t256.length : Int)) = true := decide_eq_true c10
                  have c10b1 : decide (0 < t256.length) = true := decide_eq_true (by omega)
                  clear c10
                  obtain rfl := Option.some.inj H
                  go_enter Try.func43, Try.ntmps43
                  go_wp2_with (first | ((with_reducible refine gate_dst (N := 7) rfl ?_); (try (refine gate_guard (by rfl) ?_; dsimp only)); refine Kd.R_lit (Kd.int .u8) _ 5 ?hg (N := 7) ?hd (xs := ([7] : List Int)) (inner := [.int .u8 7]) (ok := fun _ => True) (okp := fun _ => True) ?hr ?hp (fun _ hk => hk) trivial (Below.refl _ _) (Nat.le_refl _) (by simp) ?_; (case hd => rfl); (case hg => rfl); (case hr => first | (go_simp; done) | (go_simp; rfl)); (case hp => exact (Reps.one (show Kd.M (Kd.int .u8) _ _ _ 7 [.int .u8 7] from rfl) (Reps.none _ _))); intro v250 w11 ho12 hb hg_ hnew_; clear hg_ hnew_; (first | rw [← Ny249.out] at ho12 | (simp only [Int.reduceToNat] at ho12; rw [← Ny249.out] at ho12)); have n0_ := Aside0.mk (Kd.R_lower ho12 (below_size (by repeat (first | (with_reducible first | exact HB.out | apply below_alloc | apply pw_below_drewN | apply below_drew1) | exact HB.out)))); have n1_ := Aside0.mk (below_step (by repeat (first | (with_reducible first | exact HB.out | apply below_alloc | apply pw_below_drewN | apply below_drew1) | exact HB.out)) hb); clear HB; have HO251 := n0_; have HB := n1_; clear n0_ n1_; clear hb ho12; obtain ⟨Ao13, co13, eo13⟩ := Kd.R_slice HO251.out; subst eo13) | ((with_reducible refine gate_callee (f := 44) rfl ?_); refine goesL_ (some 8) rfl rfl Try.func44 (by kernel_rfl) rfl #[.slice Ao13 y249.length co13] rfl (by (try simp only [List.map_toArray, List.map_cons, List.map_nil]); first | done | rfl | (simp only [List.length_drop, List.length_take]; rfl)) ?_; (with_reducible refine (frame_Put.calls _ _ y249 t252 t253 _ ?side1 ?side2 A1.out).mono ?_); (case side1 => repeat (first | exact (Kd.R_reads' HO251.out).2.2 | (with_reducible refine Kd.C_alloc ?_ _) | (with_reducible refine Kd.C_drewN ?_ _) | (with_reducible refine Kd.C_drew ?_))); (case side2 => exact (Kd.R_reads' HO251.out).2.1); rintro e w14 ⟨v254, rfl, ho0, hb⟩; refine ⟨_, rfl, ?_⟩; have n0_ := Aside0.mk (Kd.R_elder' (by (with_reducible repeat (first | apply Kd.R_alloc | apply Kd.R_drewN | apply Kd.R_drew)); exact HO251.out) (Kd.R_base ho0) hb); have n1_ := Aside0.mk (Kd.R_lower (Kd.R_new' ho0 (Kd.R_lt (by (with_reducible repeat (first | apply Kd.R_alloc | apply Kd.R_drewN | apply Kd.R_drew)); exact HO251.out))) (below_size (by repeat (first | (with_reducible first | exact HB.out | apply below_alloc | apply pw_below_drewN | apply below_drew1) | exact HB.out)))); have n2_ := Aside0.mk (below_step (by repeat (first | (with_reducible first | exact HB.out | apply below_alloc | apply pw_below_drewN | apply below_drew1) | exact HB.out)) hb); clear HO251; clear HB; have HO251 := n0_; have HO255 := n1_; have HB := n2_; clear n0_ n1_ n2_; (try clear hb); (try clear hb2); (try clear hk); (try clear hi); (try clear ho0); obtain ⟨Ao15, co15, eo15⟩ := Kd.R_slice HO255.out; subst eo15) | ((with_reducible refine gate_callee (f := 46) rfl ?_); refine goesL_ (some 13) rfl rfl Try.func46 (by kernel_rfl) rfl #[.slice Ao15 t252.length co15] rfl (by (try simp only [List.map_toArray, List.map_cons, List.map_nil]); first | done | rfl | (simp only [List.length_drop, List.length_take]; rfl)) ?_; (with_reducible refine (frame_Take.calls _ _ t252 t256 t257 t258 _ ?side1 ?side2 A2.out).mono ?_); (case side1 => repeat (first | exact (Kd.R_reads' HO255.out).2.2 | (with_reducible refine Kd.C_alloc ?_ _) | (with_reducible refine Kd.C_drewN ?_ _) | (with_reducible refine Kd.C_drew ?_))); (case side2 => exact (Kd.R_reads' HO255.out).2.1); rintro e w16 ⟨v259, rfl, ho0, hb⟩; refine ⟨_, rfl, ?_⟩; have n0_ := Aside0.mk (Kd.R_elder' (by (with_reducible repeat (first | apply Kd.R_alloc | apply Kd.R_drewN | apply Kd.R_drew)); exact HO251.out) (Kd.R_base ho0) hb); have n1_ := Aside0.mk (Kd.R_elder' (by (with_reducible repeat (first | apply Kd.R_alloc | apply Kd.R_drewN | apply Kd.R_drew)); exact HO255.out) (Kd.R_base ho0) hb); have n2_ := Aside0.mk (Kd.R_lower (Kd.R_new' (Kd.R_new' ho0 (Kd.R_lt (by (with_reducible repeat (first | apply Kd.R_alloc | apply Kd.R_drewN | apply Kd.R_drew)); exact HO251.out))) (Kd.R_lt (by (with_reducible repeat (first | apply Kd.R_alloc | apply Kd.R_drewN | apply Kd.R_drew)); exact HO255.out))) (below_size (by repeat (first | (with_reducible first | exact HB.out | apply below_alloc | apply pw_below_drewN | apply below_drew1) | exact HB.out)))); have n3_ := Aside0.mk (below_step (by repeat (first | (with_reducible first | exact HB.out | apply below_alloc | apply pw_below_drewN | apply below_drew1) | exact HB.out)) hb); clear HO251; clear HO255; clear HB; have HO251 := n0_; have HO255 := n1_; have HO260 := n2_; have HB := n3_; clear n0_ n1_ n2_ n3_; (try clear hb); (try clear hb2); (try clear hk); (try clear hi); (try clear ho0); have p261 : 0 ≤ (1 : Int) := (by omega); have q261 : 1 < (t252.length : Int) := of_decide_eq_true (by first | (with_reducible assumption) | assumption); obtain ⟨ad261, e261, hx261_0⟩ := Kd.at_int (Kd.R_reads' HO255.out).2.2 1 p261 q261; cases e261; (try simp only [show (1 : Int).toNat = 1 from rfl, Nat.reduceMul, Nat.reduceEqDiff, Go.Addr.add, ↓reduceIte] at hx261_0); have qi261 : (1 < t252.length) = True := eq_true (by omega); (try rw [show ((1 : Int)).toNat = 1 from rfl] at hx261_0); replace p261 := eq_true p261; replace q261 := eq_true q261; obtain ⟨Ao17, co17, eo17⟩ := Kd.R_slice HO260.out; subst eo17; have p262 : 0 ≤ (0 : Int) := (by omega); have q262 : 0 < (t256.length : Int) := of_decide_eq_true (by first | (with_reducible assumption) | assumption); obtain ⟨ad262, e262, hx262_0⟩ := Kd.at_int (Kd.R_reads' HO260.out).2.2 0 p262 q262; cases e262; have qi262 : (0 < t256.length) = True := eq_true (by omega); (try rw [show ((0 : Int)).toNat = 0 from rfl] at hx262_0); (try rw [Addr.add_zero'] at hx262_0); replace p262 := eq_true p262; replace q262 := eq_true q262))
                  go_ret
                  exact ⟨by first | rfl | (simp [errW_none, errW_some] <;> rfl) | (simp [*, errW_none, errW_some] <;> rfl), by repeat (first | (with_reducible first | exact HB.out | apply below_alloc | apply pw_below_drewN | apply below_drew1) | exact HB.out)⟩
                · rw [if_neg c10] at H
                  exact absurd H (by simp)
              · rw [if_neg c9] at H
                have c9b0 : ((t256.length : Int) == 1) = false := beq_eq_false_iff_ne.mpr c9
                have c9b1 : ((t256.length : Int) != 1) = true := bne_iff_ne.mpr c9
                obtain rfl := Option.some.inj H
                go_enter Try.func43, Try.ntmps43
                go_wp2_with (first | ((with_reducible refine gate_dst (N := 7) rfl ?_); (try (refine gate_guard (by rfl) ?_; dsimp only)); refine Kd.R_lit (Kd.int .u8) _ 5 ?hg (N := 7) ?hd (xs := ([7] : List Int)) (inner := [.int .u8 7]) (ok := fun _ => True) (okp := fun _ => True) ?hr ?hp (fun _ hk => hk) trivial (Below.refl _ _) (Nat.le_refl _) (by simp) ?_; (case hd => rfl); (case hg => rfl); (case hr => first | (go_simp; done) | (go_simp; rfl)); (case hp => exact (Reps.one (show Kd.M (Kd.int .u8) _ _ _ 7 [.int .u8 7] from rfl) (Reps.none _ _))); intro v250 w18 ho19 hb hg_ hnew_; clear hg_ hnew_; (first | rw [← Ny249.out] at ho19 | (simp only [Int.reduceToNat] at ho19; rw [← Ny249.out] at ho19)); have n0_ := Aside0.mk (Kd.R_lower ho19 (below_size (by repeat (first | (with_reducible first | exact HB.out | apply below_alloc | apply pw_below_drewN | apply below_drew1) | exact HB.out)))); have n1_ := Aside0.mk (below_step (by repeat (first | (with_reducible first | exact HB.out | apply below_alloc | apply pw_below_drewN | apply below_drew1) | exact HB.out)) hb); clear HB; have HO251 := n0_; have HB := n1_; clear n0_ n1_; clear hb ho19; obtain ⟨Ao20, co20, eo20⟩ := Kd.R_slice HO251.out; subst eo20) | ((with_reducible refine gate_callee (f := 44) rfl ?_); refine goesL_ (some 8) rfl rfl Try.func44 (by kernel_rfl) rfl #[.slice Ao20 y249.length co20] rfl (by (try simp only [List.map_toArray, List.map_cons, List.map_nil]); first | done | rfl | (simp only [List.length_drop, List.length_take]; rfl)) ?_; (with_reducible refine (frame_Put.calls _ _ y249 t252 t253 _ ?side1 ?side2 A1.out).mono ?_); (case side1 => repeat (first | exact (Kd.R_reads' HO251.out).2.2 | (with_reducible refine Kd.C_alloc ?_ _) | (with_reducible refine Kd.C_drewN ?_ _) | (with_reducible refine Kd.C_drew ?_))); (case side2 => exact (Kd.R_reads' HO251.out).2.1); rintro e w21 ⟨v254, rfl, ho0, hb⟩; refine ⟨_, rfl, ?_⟩; have n0_ := Aside0.mk (Kd.R_elder' (by (with_reducible repeat (first | apply Kd.R_alloc | apply Kd.R_drewN | apply Kd.R_drew)); exact HO251.out) (Kd.R_base ho0) hb); have n1_ := Aside0.mk (Kd.R_lower (Kd.R_new' ho0 (Kd.R_lt (by (with_reducible repeat (first | apply Kd.R_alloc | apply Kd.R_drewN | apply Kd.R_drew)); exact HO251.out))) (below_size (by repeat (first | (with_reducible first | exact HB.out | apply below_alloc | apply pw_below_drewN | apply below_drew1) | exact HB.out)))); have n2_ := Aside0.mk (below_step (by repeat (first | (with_reducible first | exact HB.out | apply below_alloc | apply pw_below_drewN | apply below_drew1) | exact HB.out)) hb); clear HO251; clear HB; have HO251 := n0_; have HO255 := n1_; have HB := n2_; clear n0_ n1_ n2_; (try clear hb); (try clear hb2); (try clear hk); (try clear hi); (try clear ho0); obtain ⟨Ao22, co22, eo22⟩ := Kd.R_slice HO255.out; subst eo22) | ((with_reducible refine gate_callee (f := 46) rfl ?_); refine goesL_ (some 13) rfl rfl Try.func46 (by kernel_rfl) rfl #[.slice Ao22 t252.length co22] rfl (by (try simp only [List.map_toArray, List.map_cons, List.map_nil]); first | done | rfl | (simp only [List.length_drop, List.length_take]; rfl)) ?_; (with_reducible refine (frame_Take.calls _ _ t252 t256 t257 t258 _ ?side1 ?side2 A2.out).mono ?_); (case side1 => repeat (first | exact (Kd.R_reads' HO255.out).2.2 | (with_reducible refine Kd.C_alloc ?_ _) | (with_reducible refine Kd.C_drewN ?_ _) | (with_reducible refine Kd.C_drew ?_))); (case side2 => exact (Kd.R_reads' HO255.out).2.1); rintro e w23 ⟨v259, rfl, ho0, hb⟩; refine ⟨_, rfl, ?_⟩; have n0_ := Aside0.mk (Kd.R_elder' (by (with_reducible repeat (first | apply Kd.R_alloc | apply Kd.R_drewN | apply Kd.R_drew)); exact HO251.out) (Kd.R_base ho0) hb); have n1_ := Aside0.mk (Kd.R_elder' (by (with_reducible repeat (first | apply Kd.R_alloc | apply Kd.R_drewN | apply Kd.R_drew)); exact HO255.out) (Kd.R_base ho0) hb); have n2_ := Aside0.mk (Kd.R_lower (Kd.R_new' (Kd.R_new' ho0 (Kd.R_lt (by (with_reducible repeat (first | apply Kd.R_alloc | apply Kd.R_drewN | apply Kd.R_drew)); exact HO251.out))) (Kd.R_lt (by (with_reducible repeat (first | apply Kd.R_alloc | apply Kd.R_drewN | apply Kd.R_drew)); exact HO255.out))) (below_size (by repeat (first | (with_reducible first | exact HB.out | apply below_alloc | apply pw_below_drewN | apply below_drew1) | exact HB.out)))); have n3_ := Aside0.mk (below_step (by repeat (first | (with_reducible first | exact HB.out | apply below_alloc | apply pw_below_drewN | apply below_drew1) | exact HB.out)) hb); clear HO251; clear HO255; clear HB; have HO251 := n0_; have HO255 := n1_; have HO260 := n2_; have HB := n3_; clear n0_ n1_ n2_ n3_; (try clear hb); (try clear hb2); (try clear hk); (try clear hi); (try clear ho0); have p261 : 0 ≤ (1 : Int) := (by omega); have q261 : 1 < (t252.length : Int) := of_decide_eq_true (by first | (with_reducible assumption) | assumption); obtain ⟨ad261, e261, hx261_0⟩ := Kd.at_int (Kd.R_reads' HO255.out).2.2 1 p261 q261; cases e261; (try simp only [show (1 : Int).toNat = 1 from rfl, Nat.reduceMul, Nat.reduceEqDiff, Go.Addr.add, ↓reduceIte] at hx261_0); have qi261 : (1 < t252.length) = True := eq_true (by omega); (try rw [show ((1 : Int)).toNat = 1 from rfl] at hx261_0); replace p261 := eq_true p261; replace q261 := eq_true q261; obtain ⟨Ao24, co24, eo24⟩ := Kd.R_slice HO260.out; subst eo24))
                go_ret
                exact ⟨by first | rfl | (simp [errW_none, errW_some] <;> rfl) | (simp [*, errW_none, errW_some] <;> rfl), by repeat (first | (with_reducible first | exact HB.out | apply below_alloc | apply pw_below_drewN | apply below_drew1) | exact HB.out)⟩
            · rw [if_neg c8] at H
              have c8b0 : (t257 == 3) = false := beq_eq_false_iff_ne.mpr c8
              have c8b1 : (t257 != 3) = true := bne_iff_ne.mpr c8
              obtain rfl := Option.some.inj H
              go_enter Try.func43, Try.ntmps43
              go_wp2_with (first | ((with_reducible refine gate_dst (N := 7) rfl ?_); (try (refine gate_guard (by rfl) ?_; dsimp only)); refine Kd.R_lit (Kd.int .u8) _ 5 ?hg (N := 7) ?hd (xs := ([7] : List Int)) (inner := [.int .u8 7]) (ok := fun _ => True) (okp := fun _ => True) ?hr ?hp (fun _ hk => hk) trivial (Below.refl _ _) (Nat.le_refl _) (by simp) ?_; (case hd => rfl); (case hg => rfl); (case hr => first | (go_simp; done) | (go_simp; rfl)); (case hp => exact (Reps.one (show Kd.M (Kd.int .u8) _ _ _ 7 [.int .u8 7] from rfl) (Reps.none _ _))); intro v250 w25 ho26 hb hg_ hnew_; clear hg_ hnew_; (first | rw [← Ny249.out] at ho26 | (simp only [Int.reduceToNat] at ho26; rw [← Ny249.out] at ho26)); have n0_ := Aside0.mk (Kd.R_lower ho26 (below_size (by repeat (first | (with_reducible first | exact HB.out | apply below_alloc | apply pw_below_drewN | apply below_drew1) | exact HB.out)))); have n1_ := Aside0.mk (below_step (by repeat (first | (with_reducible first | exact HB.out | apply below_alloc | apply pw_below_drewN | apply below_drew1) | exact HB.out)) hb); clear HB; have HO251 := n0_; have HB := n1_; clear n0_ n1_; clear hb ho26; obtain ⟨Ao27, co27, eo27⟩ := Kd.R_slice HO251.out; subst eo27) | ((with_reducible refine gate_callee (f := 44) rfl ?_); refine goesL_ (some 8) rfl rfl Try.func44 (by kernel_rfl) rfl #[.slice Ao27 y249.length co27] rfl (by (try simp only [List.map_toArray, List.map_cons, List.map_nil]); first | done | rfl | (simp only [List.length_drop, List.length_take]; rfl)) ?_; (with_reducible refine (frame_Put.calls _ _ y249 t252 t253 _ ?side1 ?side2 A1.out).mono ?_); (case side1 => repeat (first | exact (Kd.R_reads' HO251.out).2.2 | (with_reducible refine Kd.C_alloc ?_ _) | (with_reducible refine Kd.C_drewN ?_ _) | (with_reducible refine Kd.C_drew ?_))); (case side2 => exact (Kd.R_reads' HO251.out).2.1); rintro e w28 ⟨v254, rfl, ho0, hb⟩; refine ⟨_, rfl, ?_⟩; have n0_ := Aside0.mk (Kd.R_elder' (by (with_reducible repeat (first | apply Kd.R_alloc | apply Kd.R_drewN | apply Kd.R_drew)); exact HO251.out) (Kd.R_base ho0) hb); have n1_ := Aside0.mk (Kd.R_lower (Kd.R_new' ho0 (Kd.R_lt (by (with_reducible repeat (first | apply Kd.R_alloc | apply Kd.R_drewN | apply Kd.R_drew)); exact HO251.out))) (below_size (by repeat (first | (with_reducible first | exact HB.out | apply below_alloc | apply pw_below_drewN | apply below_drew1) | exact HB.out)))); have n2_ := Aside0.mk (below_step (by repeat (first | (with_reducible first | exact HB.out | apply below_alloc | apply pw_below_drewN | apply below_drew1) | exact HB.out)) hb); clear HO251; clear HB; have HO251 := n0_; have HO255 := n1_; have HB := n2_; clear n0_ n1_ n2_; (try clear hb); (try clear hb2); (try clear hk); (try clear hi); (try clear ho0); obtain ⟨Ao29, co29, eo29⟩ := Kd.R_slice HO255.out; subst eo29) | ((with_reducible refine gate_callee (f := 46) rfl ?_); refine goesL_ (some 13) rfl rfl Try.func46 (by kernel_rfl) rfl #[.slice Ao29 t252.length co29] rfl (by (try simp only [List.map_toArray, List.map_cons, List.map_nil]); first | done | rfl | (simp only [List.length_drop, List.length_take]; rfl)) ?_; (with_reducible refine (frame_Take.calls _ _ t252 t256 t257 t258 _ ?side1 ?side2 A2.out).mono ?_); (case side1 => repeat (first | exact (Kd.R_reads' HO255.out).2.2 | (with_reducible refine Kd.C_alloc ?_ _) | (with_reducible refine Kd.C_drewN ?_ _) | (with_reducible refine Kd.C_drew ?_))); (case side2 => exact (Kd.R_reads' HO255.out).2.1); rintro e w30 ⟨v259, rfl, ho0, hb⟩; refine ⟨_, rfl, ?_⟩; have n0_ := Aside0.mk (Kd.R_elder' (by (with_reducible repeat (first | apply Kd.R_alloc | apply Kd.R_drewN | apply Kd.R_drew)); exact HO251.out) (Kd.R_base ho0) hb); have n1_ := Aside0.mk (Kd.R_elder' (by (with_reducible repeat (first | apply Kd.R_alloc | apply Kd.R_drewN | apply Kd.R_drew)); exact HO255.out) (Kd.R_base ho0) hb); have n2_ := Aside0.mk (Kd.R_lower (Kd.R_new' (Kd.R_new' ho0 (Kd.R_lt (by (with_reducible repeat (first | apply Kd.R_alloc | apply Kd.R_drewN | apply Kd.R_drew)); exact HO251.out))) (Kd.R_lt (by (with_reducible repeat (first | apply Kd.R_alloc | apply Kd.R_drewN | apply Kd.R_drew)); exact HO255.out))) (below_size (by repeat (first | (with_reducible first | exact HB.out | apply below_alloc | apply pw_below_drewN | apply below_drew1) | exact HB.out)))); have n3_ := Aside0.mk (below_step (by repeat (first | (with_reducible first | exact HB.out | apply below_alloc | apply pw_below_drewN | apply below_drew1) | exact HB.out)) hb); clear HO251; clear HO255; clear HB; have HO251 := n0_; have HO255 := n1_; have HO260 := n2_; have HB := n3_; clear n0_ n1_ n2_ n3_; (try clear hb); (try clear hb2); (try clear hk); (try clear hi); (try clear ho0); have p261 : 0 ≤ (1 : Int) := (by omega); have q261 : 1 < (t252.length : Int) := of_decide_eq_true (by first | (with_reducible assumption) | assumption); obtain ⟨ad261, e261, hx261_0⟩ := Kd.at_int (Kd.R_reads' HO255.out).2.2 1 p261 q261; cases e261; (try simp only [show (1 : Int).toNat = 1 from rfl, Nat.reduceMul, Nat.reduceEqDiff, Go.Addr.add, ↓reduceIte] at hx261_0); have qi261 : (1 < t252.length) = True := eq_true (by omega); (try rw [show ((1 : Int)).toNat = 1 from rfl] at hx261_0); replace p261 := eq_true p261; replace q261 := eq_true q261))
              go_ret
              exact ⟨by first | rfl | (simp [errW_none, errW_some] <;> rfl) | (simp [*, errW_none, errW_some] <;> rfl), by repeat (first | (with_reducible first | exact HB.out | apply below_alloc | apply pw_below_drewN | apply below_drew1) | exact HB.out)⟩
          · rw [if_neg c7] at H
            have c7b0 : ((rd t252 1) == 1) = false := beq_eq_false_iff_ne.mpr c7
            have c7b1 : ((rd t252 1) != 1) = true := bne_iff_ne.mpr c7
            obtain rfl := Option.some.inj H
            go_enter Try.func43, Try.ntmps43
            go_wp2_with (first | ((with_reducible refine gate_dst (N := 7) rfl ?_); (try (refine gate_guard (by rfl) ?_; dsimp only)); refine Kd.R_lit (Kd.int .u8) _ 5 ?hg (N := 7) ?hd (xs := ([7] : List Int)) (inner := [.int .u8 7]) (ok := fun _ => True) (okp := fun _ => True) ?hr ?hp (fun _ hk => hk) trivial (Below.refl _ _) (Nat.le_refl _) (by simp) ?_; (case hd => rfl); (case hg => rfl); (case hr => first | (go_simp; done) | (go_simp; rfl)); (case hp => exact (Reps.one (show Kd.M (Kd.int .u8) _ _ _ 7 [.int .u8 7] from rfl) (Reps.none _ _))); intro v250 w31 ho32 hb hg_ hnew_; clear hg_ hnew_; (first | rw [← Ny249.out] at ho32 | (simp only [Int.reduceToNat] at ho32; rw [← Ny249.out] at ho32)); have n0_ := Aside0.mk (Kd.R_lower ho32 (below_size (by repeat (first | (with_reducible first | exact HB.out | apply below_alloc | apply pw_below_drewN | apply below_drew1) | exact HB.out)))); have n1_ := Aside0.mk (below_step (by repeat (first | (with_reducible first | exact HB.out | apply below_alloc | apply pw_below_drewN | apply below_drew1) | exact HB.out)) hb); clear HB; have HO251 := n0_; have HB := n1_; clear n0_ n1_; clear hb ho32; obtain ⟨Ao33, co33, eo33⟩ := Kd.R_slice HO251.out; subst eo33) | ((with_reducible refine gate_callee (f := 44) rfl ?_); refine goesL_ (some 8) rfl rfl Try.func44 (by kernel_rfl) rfl #[.slice Ao33 y249.length co33] rfl (by (try simp only [List.map_toArray, List.map_cons, List.map_nil]); first | done | rfl | (simp only [List.length_drop, List.length_take]; rfl)) ?_; (with_reducible refine (frame_Put.calls _ _ y249 t252 t253 _ ?side1 ?side2 A1.out).mono ?_); (case side1 => repeat (first | exact (Kd.R_reads' HO251.out).2.2 | (with_reducible refine Kd.C_alloc ?_ _) | (with_reducible refine Kd.C_drewN ?_ _) | (with_reducible refine Kd.C_drew ?_))); (case side2 => exact (Kd.R_reads' HO251.out).2.1); rintro e w34 ⟨v254, rfl, ho0, hb⟩; refine ⟨_, rfl, ?_⟩; have n0_ := Aside0.mk (Kd.R_elder' (by (with_reducible repeat (first | apply Kd.R_alloc | apply Kd.R_drewN | apply Kd.R_drew)); exact HO251.out) (Kd.R_base ho0) hb); have n1_ := Aside0.mk (Kd.R_lower (Kd.R_new' ho0 (Kd.R_lt (by (with_reducible repeat (first | apply Kd.R_alloc | apply Kd.R_drewN | apply Kd.R_drew)); exact HO251.out))) (below_size (by repeat (first | (with_reducible first | exact HB.out | apply below_alloc | apply pw_below_drewN | apply below_drew1) | exact HB.out)))); have n2_ := Aside0.mk (below_step (by repeat (first | (with_reducible first | exact HB.out | apply below_alloc | apply pw_below_drewN | apply below_drew1) | exact HB.out)) hb); clear HO251; clear HB; have HO251 := n0_; have HO255 := n1_; have HB := n2_; clear n0_ n1_ n2_; (try clear hb); (try clear hb2); (try clear hk); (try clear hi); (try clear ho0); obtain ⟨Ao35, co35, eo35⟩ := Kd.R_slice HO255.out; subst eo35) | ((with_reducible refine gate_callee (f := 46) rfl ?_); refine goesL_ (some 13) rfl rfl Try.func46 (by kernel_rfl) rfl #[.slice Ao35 t252.length co35] rfl (by (try simp only [List.map_toArray, List.map_cons, List.map_nil]); first | done | rfl | (simp only [List.length_drop, List.length_take]; rfl)) ?_; (with_reducible refine (frame_Take.calls _ _ t252 t256 t257 t258 _ ?side1 ?side2 A2.out).mono ?_); (case side1 => repeat (first | exact (Kd.R_reads' HO255.out).2.2 | (with_reducible refine Kd.C_alloc ?_ _) | (with_reducible refine Kd.C_drewN ?_ _) | (with_reducible refine Kd.C_drew ?_))); (case side2 => exact (Kd.R_reads' HO255.out).2.1); rintro e w36 ⟨v259, rfl, ho0, hb⟩; refine ⟨_, rfl, ?_⟩; have n0_ := Aside0.mk (Kd.R_elder' (by (with_reducible repeat (first | apply Kd.R_alloc | apply Kd.R_drewN | apply Kd.R_drew)); exact HO251.out) (Kd.R_base ho0) hb); have n1_ := Aside0.mk (Kd.R_elder' (by (with_reducible repeat (first | apply Kd.R_alloc | apply Kd.R_drewN | apply Kd.R_drew)); exact HO255.out) (Kd.R_base ho0) hb); have n2_ := Aside0.mk (Kd.R_lower (Kd.R_new' (Kd.R_new' ho0 (Kd.R_lt (by (with_reducible repeat (first | apply Kd.R_alloc | apply Kd.R_drewN | apply Kd.R_drew)); exact HO251.out))) (Kd.R_lt (by (with_reducible repeat (first | apply Kd.R_alloc | apply Kd.R_drewN | apply Kd.R_drew)); exact HO255.out))) (below_size (by repeat (first | (with_reducible first | exact HB.out | apply below_alloc | apply pw_below_drewN | apply below_drew1) | exact HB.out)))); have n3_ := Aside0.mk (below_step (by repeat (first | (with_reducible first | exact HB.out | apply below_alloc | apply pw_below_drewN | apply below_drew1) | exact HB.out)) hb); clear HO251; clear HO255; clear HB; have HO251 := n0_; have HO255 := n1_; have HO260 := n2_; have HB := n3_; clear n0_ n1_ n2_ n3_; (try clear hb); (try clear hb2); (try clear hk); (try clear hi); (try clear ho0); have p261 : 0 ≤ (1 : Int) := (by omega); have q261 : 1 < (t252.length : Int) := of_decide_eq_true (by first | (with_reducible assumption) | assumption); obtain ⟨ad261, e261, hx261_0⟩ := Kd.at_int (Kd.R_reads' HO255.out).2.2 1 p261 q261; cases e261; (try simp only [show (1 : Int).toNat = 1 from rfl, Nat.reduceMul, Nat.reduceEqDiff, Go.Addr.add, ↓reduceIte] at hx261_0); have qi261 : (1 < t252.length) = True := eq_true (by omega); (try rw [show ((1 : Int)).toNat = 1 from rfl] at hx261_0); replace p261 := eq_true p261; replace q261 := eq_true q261))
            go_ret
            exact ⟨by first | rfl | (simp [errW_none, errW_some] <;> rfl) | (simp [*, errW_none, errW_some] <;> rfl), by repeat (first | (with_reducible first | exact HB.out | apply below_alloc | apply pw_below_drewN | apply below_drew1) | exact HB.out)⟩
        · rw [if_neg c6] at H
          exact absurd H (by simp)
      · rw [if_neg c5] at H
        have c5b0 : ((t252.length : Int) == 3) = false := beq_eq_false_iff_ne.mpr c5
        have c5b1 : ((t252.length : Int) != 3) = true := bne_iff_ne.mpr c5
        obtain rfl := Option.some.inj H
        go_enter Try.func43, Try.ntmps43
        go_wp2_with (first | ((with_reducible refine gate_dst (N := 7) rfl ?_); (try (refine gate_guard (by rfl) ?_; dsimp only)); refine Kd.R_lit (Kd.int .u8) _ 5 ?hg (N := 7) ?hd (xs := ([7] : List Int)) (inner := [.int .u8 7]) (ok := fun _ => True) (okp := fun _ => True) ?hr ?hp (fun _ hk => hk) trivial (Below.refl _ _) (Nat.le_refl _) (by simp) ?_; (case hd => rfl); (case hg => rfl); (case hr => first | (go_simp; done) | (go_simp; rfl)); (case hp => exact (Reps.one (show Kd.M (Kd.int .u8) _ _ _ 7 [.int .u8 7] from rfl) (Reps.none _ _))); intro v250 w37 ho38 hb hg_ hnew_; clear hg_ hnew_; (first | rw [← Ny249.out] at ho38 | (simp only [Int.reduceToNat] at ho38; rw [← Ny249.out] at ho38)); have n0_ := Aside0.mk (Kd.R_lower ho38 (below_size (by repeat (first | (with_reducible first | exact HB.out | apply below_alloc | apply pw_below_drewN | apply below_drew1) | exact HB.out)))); have n1_ := Aside0.mk (below_step (by repeat (first | (with_reducible first | exact HB.out | apply below_alloc | apply pw_below_drewN | apply below_drew1) | exact HB.out)) hb); clear HB; have HO251 := n0_; have HB := n1_; clear n0_ n1_; clear hb ho38; obtain ⟨Ao39, co39, eo39⟩ := Kd.R_slice HO251.out; subst eo39) | ((with_reducible refine gate_callee (f := 44) rfl ?_); refine goesL_ (some 8) rfl rfl Try.func44 (by kernel_rfl) rfl #[.slice Ao39 y249.length co39] rfl (by (try simp only [List.map_toArray, List.map_cons, List.map_nil]); first | done | rfl | (simp only [List.length_drop, List.length_take]; rfl)) ?_; (with_reducible refine (frame_Put.calls _ _ y249 t252 t253 _ ?side1 ?side2 A1.out).mono ?_); (case side1 => repeat (first | exact (Kd.R_reads' HO251.out).2.2 | (with_reducible refine Kd.C_alloc ?_ _) | (with_reducible refine Kd.C_drewN ?_ _) | (with_reducible refine Kd.C_drew ?_))); (case side2 => exact (Kd.R_reads' HO251.out).2.1); rintro e w40 ⟨v254, rfl, ho0, hb⟩; refine ⟨_, rfl, ?_⟩; have n0_ := Aside0.mk (Kd.R_elder' (by (with_reducible repeat (first | apply Kd.R_alloc | apply Kd.R_drewN | apply Kd.R_drew)); exact HO251.out) (Kd.R_base ho0) hb); have n1_ := Aside0.mk (Kd.R_lower (Kd.R_new' ho0 (Kd.R_lt (by (with_reducible repeat (first | apply Kd.R_alloc | apply Kd.R_drewN | apply Kd.R_drew)); exact HO251.out))) (below_size (by repeat (first | (with_reducible first | exact HB.out | apply below_alloc | apply pw_below_drewN | apply below_drew1) | exact HB.out)))); have n2_ := Aside0.mk (below_step (by repeat (first | (with_reducible first | exact HB.out | apply below_alloc | apply pw_below_drewN | apply below_drew1) | exact HB.out)) hb); clear HO251; clear HB; have HO251 := n0_; have HO255 := n1_; have HB := n2_; clear n0_ n1_ n2_; (try clear hb); (try clear hb2); (try clear hk); (try clear hi); (try clear ho0); obtain ⟨Ao41, co41, eo41⟩ := Kd.R_slice HO255.out; subst eo41) | ((with_reducible refine gate_callee (f := 46) rfl ?_); refine goesL_ (some 13) rfl rfl Try.func46 (by kernel_rfl) rfl #[.slice Ao41 t252.length co41] rfl (by (try simp only [List.map_toArray, List.map_cons, List.map_nil]); first | done | rfl | (simp only [List.length_drop, List.length_take]; rfl)) ?_; (with_reducible refine (frame_Take.calls _ _ t252 t256 t257 t258 _ ?side1 ?side2 A2.out).mono ?_); (case side1 => repeat (first | exact (Kd.R_reads' HO255.out).2.2 | (with_reducible refine Kd.C_alloc ?_ _) | (with_reducible refine Kd.C_drewN ?_ _) | (with_reducible refine Kd.C_drew ?_))); (case side2 => exact (Kd.R_reads' HO255.out).2.1); rintro e w42 ⟨v259, rfl, ho0, hb⟩; refine ⟨_, rfl, ?_⟩; have n0_ := Aside0.mk (Kd.R_elder' (by (with_reducible repeat (first | apply Kd.R_alloc | apply Kd.R_drewN | apply Kd.R_drew)); exact HO251.out) (Kd.R_base ho0) hb); have n1_ := Aside0.mk (Kd.R_elder' (by (with_reducible repeat (first | apply Kd.R_alloc | apply Kd.R_drewN | apply Kd.R_drew)); exact HO255.out) (Kd.R_base ho0) hb); have n2_ := Aside0.mk (Kd.R_lower (Kd.R_new' (Kd.R_new' ho0 (Kd.R_lt (by (with_reducible repeat (first | apply Kd.R_alloc | apply Kd.R_drewN | apply Kd.R_drew)); exact HO251.out))) (Kd.R_lt (by (with_reducible repeat (first | apply Kd.R_alloc | apply Kd.R_drewN | apply Kd.R_drew)); exact HO255.out))) (below_size (by repeat (first | (with_reducible first | exact HB.out | apply below_alloc | apply pw_below_drewN | apply below_drew1) | exact HB.out)))); have n3_ := Aside0.mk (below_step (by repeat (first | (with_reducible first | exact HB.out | apply below_alloc | apply pw_below_drewN | apply below_drew1) | exact HB.out)) hb); clear HO251; clear HO255; clear HB; have HO251 := n0_; have HO255 := n1_; have HO260 := n2_; have HB := n3_; clear n0_ n1_ n2_ n3_; (try clear hb); (try clear hb2); (try clear hk); (try clear hi); (try clear ho0)))
        go_ret
        exact ⟨by first | rfl | (simp [errW_none, errW_some] <;> rfl) | (simp [*, errW_none, errW_some] <;> rfl), by repeat (first | (with_reducible first | exact HB.out | apply below_alloc | apply pw_below_drewN | apply below_drew1) | exact HB.out)⟩
    · rw [if_neg c4] at H
      have c4b0 : (t258 == 0) = false := beq_eq_false_iff_ne.mpr c4
      have c4b1 : (t258 != 0) = true := bne_iff_ne.mpr c4
      obtain rfl := Option.some.inj H
      go_enter Try.func43, Try.ntmps43
      go_wp2_with (first | ((with_reducible refine gate_dst (N := 7) rfl ?_); (try (refine gate_guard (by rfl) ?_; dsimp only)); refine Kd.R_lit (Kd.int .u8) _ 5 ?hg (N := 7) ?hd (xs := ([7] : List Int)) (inner := [.int .u8 7]) (ok := fun _ => True) (okp := fun _ => True) ?hr ?hp (fun _ hk => hk) trivial (Below.refl _ _) (Nat.le_refl _) (by simp) ?_; (case hd => rfl); (case hg => rfl); (case hr => first | (go_simp; done) | (go_simp; rfl)); (case hp => exact (Reps.one (show Kd.M (Kd.int .u8) _ _ _ 7 [.int .u8 7] from rfl) (Reps.none _ _))); intro v250 w43 ho44 hb hg_ hnew_; clear hg_ hnew_; (first | rw [← Ny249.out] at ho44 | (simp only [Int.reduceToNat] at ho44; rw [← Ny249.out] at ho44)); have n0_ := Aside0.mk (Kd.R_lower ho44 (below_size (by repeat (first | (with_reducible first | exact HB.out | apply below_alloc | apply pw_below_drewN | apply below_drew1) | exact HB.out)))); have n1_ := Aside0.mk (below_step (by repeat (first | (with_reducible first | exact HB.out | apply below_alloc | apply pw_below_drewN | apply below_drew1) | exact HB.out)) hb); clear HB; have HO251 := n0_; have HB := n1_; clear n0_ n1_; clear hb ho44; obtain ⟨Ao45, co45, eo45⟩ := Kd.R_slice HO251.out; subst eo45) | ((with_reducible refine gate_callee (f := 44) rfl ?_); refine goesL_ (some 8) rfl rfl Try.func44 (by kernel_rfl) rfl #[.slice Ao45 y249.length co45] rfl (by (try simp only [List.map_toArray, List.map_cons, List.map_nil]); first | done | rfl | (simp only [List.length_drop, List.length_take]; rfl)) ?_; (with_reducible refine (frame_Put.calls _ _ y249 t252 t253 _ ?side1 ?side2 A1.out).mono ?_); (case side1 => repeat (first | exact (Kd.R_reads' HO251.out).2.2 | (with_reducible refine Kd.C_alloc ?_ _) | (with_reducible refine Kd.C_drewN ?_ _) | (with_reducible refine Kd.C_drew ?_))); (case side2 => exact (Kd.R_reads' HO251.out).2.1); rintro e w46 ⟨v254, rfl, ho0, hb⟩; refine ⟨_, rfl, ?_⟩; have n0_ := Aside0.mk (Kd.R_elder' (by (with_reducible repeat (first | apply Kd.R_alloc | apply Kd.R_drewN | apply Kd.R_drew)); exact HO251.out) (Kd.R_base ho0) hb); have n1_ := Aside0.mk (Kd.R_lower (Kd.R_new' ho0 (Kd.R_lt (by (with_reducible repeat (first | apply Kd.R_alloc | apply Kd.R_drewN | apply Kd.R_drew)); exact HO251.out))) (below_size (by repeat (first | (with_reducible first | exact HB.out | apply below_alloc | apply pw_below_drewN | apply below_drew1) | exact HB.out)))); have n2_ := Aside0.mk (below_step (by repeat (first | (with_reducible first | exact HB.out | apply below_alloc | apply pw_below_drewN | apply below_drew1) | exact HB.out)) hb); clear HO251; clear HB; have HO251 := n0_; have HO255 := n1_; have HB := n2_; clear n0_ n1_ n2_; (try clear hb); (try clear hb2); (try clear hk); (try clear hi); (try clear ho0); obtain ⟨Ao47, co47, eo47⟩ := Kd.R_slice HO255.out; subst eo47) | ((with_reducible refine gate_callee (f := 46) rfl ?_); refine goesL_ (some 13) rfl rfl Try.func46 (by kernel_rfl) rfl #[.slice Ao47 t252.length co47] rfl (by (try simp only [List.map_toArray, List.map_cons, List.map_nil]); first | done | rfl | (simp only [List.length_drop, List.length_take]; rfl)) ?_; (with_reducible refine (frame_Take.calls _ _ t252 t256 t257 t258 _ ?side1 ?side2 A2.out).mono ?_); (case side1 => repeat (first | exact (Kd.R_reads' HO255.out).2.2 | (with_reducible refine Kd.C_alloc ?_ _) | (with_reducible refine Kd.C_drewN ?_ _) | (with_reducible refine Kd.C_drew ?_))); (case side2 => exact (Kd.R_reads' HO255.out).2.1); rintro e w48 ⟨v259, rfl, ho0, hb⟩; refine ⟨_, rfl, ?_⟩; have n0_ := Aside0.mk (Kd.R_elder' (by (with_reducible repeat (first | apply Kd.R_alloc | apply Kd.R_drewN | apply Kd.R_drew)); exact HO251.out) (Kd.R_base ho0) hb); have n1_ := Aside0.mk (Kd.R_elder' (by (with_reducible repeat (first | apply Kd.R_alloc | apply Kd.R_drewN | apply Kd.R_drew)); exact HO255.out) (Kd.R_base ho0) hb); have n2_ := Aside0.mk (Kd.R_lower (Kd.R_new' (Kd.R_new' ho0 (Kd.R_lt (by (with_reducible repeat (first | apply Kd.R_alloc | apply Kd.R_drewN | apply Kd.R_drew)); exact HO251.out))) (Kd.R_lt (by (with_reducible repeat (first | apply Kd.R_alloc | apply Kd.R_drewN | apply Kd.R_drew)); exact HO255.out))) (below_size (by repeat (first | (with_reducible first | exact HB.out | apply below_alloc | apply pw_below_drewN | apply below_drew1) | exact HB.out)))); have n3_ := Aside0.mk (below_step (by repeat (first | (with_reducible first | exact HB.out | apply below_alloc | apply pw_below_drewN | apply below_drew1) | exact HB.out)) hb); clear HO251; clear HO255; clear HB; have HO251 := n0_; have HO255 := n1_; have HO260 := n2_; have HB := n3_; clear n0_ n1_ n2_ n3_; (try clear hb); (try clear hb2); (try clear hk); (try clear hi); (try clear ho0)))
      go_ret
      exact ⟨by first | rfl | (simp [errW_none, errW_some] <;> rfl) | (simp [*, errW_none, errW_some] <;> rfl), by repeat (first | (with_reducible first | exact HB.out | apply below_alloc | apply pw_below_drewN | apply below_drew1) | exact HB.out)⟩
  · rw [if_neg c3] at H
    have c3b0 : (t253 == 0) = false := beq_eq_false_iff_ne.mpr c3
    have c3b1 : (t253 != 0) = true := bne_iff_ne.mpr c3
    obtain rfl := Option.some.inj H
    go_enter Try.func43, Try.ntmps43
    go_wp2_with (first | ((with_reducible refine gate_dst (N := 7) rfl ?_); (try (refine gate_guard (by rfl) ?_; dsimp only)); refine Kd.R_lit (Kd.int .u8) _ 5 ?hg (N := 7) ?hd (xs := ([7] : List Int)) (inner := [.int .u8 7]) (ok := fun _ => True) (okp := fun _ => True) ?hr ?hp (fun _ hk => hk) trivial (Below.refl _ _) (Nat.le_refl _) (by simp) ?_; (case hd => rfl); (case hg => rfl); (case hr => first | (go_simp; done) | (go_simp; rfl)); (case hp => exact (Reps.one (show Kd.M (Kd.int .u8) _ _ _ 7 [.int .u8 7] from rfl) (Reps.none _ _))); intro v250 w49 ho50 hb hg_ hnew_; clear hg_ hnew_; (first | rw [← Ny249.out] at ho50 | (simp only [Int.reduceToNat] at ho50; rw [← Ny249.out] at ho50)); have n0_ := Aside0.mk (Kd.R_lower ho50 (below_size (by repeat (first | (with_reducible first | exact HB.out | apply below_alloc | apply pw_below_drewN | apply below_drew1) | exact HB.out)))); have n1_ := Aside0.mk (below_step (by repeat (first | (with_reducible first | exact HB.out | apply below_alloc | apply pw_below_drewN | apply below_drew1) | exact HB.out)) hb); clear HB; have HO251 := n0_; have HB := n1_; clear n0_ n1_; clear hb ho50; obtain ⟨Ao51, co51, eo51⟩ := Kd.R_slice HO251.out; subst eo51) | ((with_reducible refine gate_callee (f := 44) rfl ?_); refine goesL_ (some 8) rfl rfl Try.func44 (by kernel_rfl) rfl #[.slice Ao51 y249.length co51] rfl (by (try simp only [List.map_toArray, List.map_cons, List.map_nil]); first | done | rfl | (simp only [List.length_drop, List.length_take]; rfl)) ?_; (with_reducible refine (frame_Put.calls _ _ y249 t252 t253 _ ?side1 ?side2 A1.out).mono ?_); (case side1 => repeat (first | exact (Kd.R_reads' HO251.out).2.2 | (with_reducible refine Kd.C_alloc ?_ _) | (with_reducible refine Kd.C_drewN ?_ _) | (with_reducible refine Kd.C_drew ?_))); (case side2 => exact (Kd.R_reads' HO251.out).2.1); rintro e w52 ⟨v254, rfl, ho0, hb⟩; refine ⟨_, rfl, ?_⟩; have n0_ := Aside0.mk (Kd.R_elder' (by (with_reducible repeat (first | apply Kd.R_alloc | apply Kd.R_drewN | apply Kd.R_drew)); exact HO251.out) (Kd.R_base ho0) hb); have n1_ := Aside0.mk (Kd.R_lower (Kd.R_new' ho0 (Kd.R_lt (by (with_reducible repeat (first | apply Kd.R_alloc | apply Kd.R_drewN | apply Kd.R_drew)); exact HO251.out))) (below_size (by repeat (first | (with_reducible first | exact HB.out | apply below_alloc | apply pw_below_drewN | apply below_drew1) | exact HB.out)))); have n2_ := Aside0.mk (below_step (by repeat (first | (with_reducible first | exact HB.out | apply below_alloc | apply pw_below_drewN | apply below_drew1) | exact HB.out)) hb); clear HO251; clear HB; have HO251 := n0_; have HO255 := n1_; have HB := n2_; clear n0_ n1_ n2_; (try clear hb); (try clear hb2); (try clear hk); (try clear hi); (try clear ho0); obtain ⟨Ao53, co53, eo53⟩ := Kd.R_slice HO255.out; subst eo53) | ((with_reducible refine gate_callee (f := 46) rfl ?_); refine goesL_ (some 13) rfl rfl Try.func46 (by kernel_rfl) rfl #[.slice Ao53 t252.length co53] rfl (by (try simp only [List.map_toArray, List.map_cons, List.map_nil]); first | done | rfl | (simp only [List.length_drop, List.length_take]; rfl)) ?_; (with_reducible refine (frame_Take.calls _ _ t252 t256 t257 t258 _ ?side1 ?side2 A2.out).mono ?_); (case side1 => repeat (first | exact (Kd.R_reads' HO255.out).2.2 | (with_reducible refine Kd.C_alloc ?_ _) | (with_reducible refine Kd.C_drewN ?_ _) | (with_reducible refine Kd.C_drew ?_))); (case side2 => exact (Kd.R_reads' HO255.out).2.1); rintro e w54 ⟨v259, rfl, ho0, hb⟩; refine ⟨_, rfl, ?_⟩; have n0_ := Aside0.mk (Kd.R_elder' (by (with_reducible repeat (first | apply Kd.R_alloc | apply Kd.R_drewN | apply Kd.R_drew)); exact HO251.out) (Kd.R_base ho0) hb); have n1_ := Aside0.mk (Kd.R_elder' (by (with_reducible repeat (first | apply Kd.R_alloc | apply Kd.R_drewN | apply Kd.R_drew)); exact HO255.out) (Kd.R_base ho0) hb); have n2_ := Aside0.mk (Kd.R_lower (Kd.R_new' (Kd.R_new' ho0 (Kd.R_lt (by (with_reducible repeat (first | apply Kd.R_alloc | apply Kd.R_drewN | apply Kd.R_drew)); exact HO251.out))) (Kd.R_lt (by (with_reducible repeat (first | apply Kd.R_alloc | apply Kd.R_drewN | apply Kd.R_drew)); exact HO255.out))) (below_size (by repeat (first | (with_reducible first | exact HB.out | apply below_alloc | apply pw_below_drewN | apply below_drew1) | exact HB.out)))); have n3_ := Aside0.mk (below_step (by repeat (first | (with_reducible first | exact HB.out | apply below_alloc | apply pw_below_drewN | apply below_drew1) | exact HB.out)) hb); clear HO251; clear HO255; clear HB; have HO251 := n0_; have HO255 := n1_; have HO260 := n2_; have HB := n3_; clear n0_ n1_ n2_ n3_; (try clear hb); (try clear hb2); (try clear hk); (try clear hi); (try clear ho0)))
    go_ret
    exact ⟨by first | rfl | (simp [errW_none, errW_some] <;> rfl) | (simp [*, errW_none, errW_some] <;> rfl), by repeat (first | (with_reducible first | exact HB.out | apply below_alloc | apply pw_below_drewN | apply below_drew1) | exact HB.out)⟩

end Go.Proofs.Ytalpemoodollpaa.P
-- Printed by hookprint.py (the session's own program, over the kit's print.py): checked by Lean like any text.
namespace Go.Proofs.Ytalpemoodollpaa.P
open Go.RowKit Go.Proofs.YtalpemoodollpaaW.PrintWords Go.Proofs.YtalpemoodollpaaW.PrintLast Go.Proofs.YtalpemoodollpaaW.PrintMore
attribute [local go_sem] max2_int min2_int max_two min_two max_three min_three max_four min_four   -- for this text's walks alone
set_option linter.unusedVariables false
set_option linter.unusedSimpArgs false

/-! ### damperref04_Put: function 45 -/
def damperref04_Put.f (k : Nat) (l0 : List Int) : Option (List Int × Int) := if (l0.length : Int) > 64 then (some (([] : List Int), 9)) else ((damperref03_Uint.f k (IntKind.u64.wrap ((l0.length : Int))) 2).bind fun t263 => (if t263.length + l0.length < 140737488355328 then (some ((t263 ++ l0), 0)) else (none)))
theorem damperref04_Put.mono : ∀ a0 k, LeO (damperref04_Put.f k a0) (damperref04_Put.f (k + 1) a0) := by
  intro a0 k
  unfold damperref04_Put.f
  repeat' first
      | (with_reducible exact damperref03_Uint.mono _ _ _)
      | (with_reducible exact LeO.refl _)
      | (with_reducible exact LeO.none _)
      | (with_reducible refine LeO.ite ?_ ?_)
      | (with_reducible refine LeO.bind ?_ (fun _ => ?_))
      | exact damperref03_Uint.mono _ _ _
      | exact LeO.none _
      | refine LeO.ite ?_ ?_
      | refine LeO.bind ?_ (fun _ => ?_)
set_option maxHeartbeats 8000000 in
set_option maxRecDepth 100000 in
theorem damperref04_Put.calls (k : Nat) (A0 : Option Addr) (c0 : Nat) (l0 : List Int) (r1 : List Int) (r2 : Int) (w : World) (hr0 : Kd.C (Kd.int .u8) w A0 l0.length l0) (hc0 : l0.length ≤ c0) (h : damperref04_Put.f k l0 = some (r1, r2)) :
    Calls Try.prog 45 #[.slice A0 l0.length c0] w fun e w' => ∃ v0_ : Value, e = .returned (.tuple #[v0_, .int .i64 r2]) ∧ Kd.R (Kd.int .u8) 5 w' w.heap.size (fun _ => True) v0_ r1 ∧ Below w.heap.size w w' := by
  have HR0 := Aside0.mk hr0
  have HC0 := Aside0.mk hc0
  clear hr0 hc0
  have HB := Aside0.mk (Below.refl w.heap.size w)
  have H : (if (l0.length : Int) > 64 then (some (([] : List Int), 9)) else ((damperref03_Uint.f k (IntKind.u64.wrap ((l0.length : Int))) 2).bind fun t263 => (if t263.length + l0.length < 140737488355328 then (some ((t263 ++ l0), 0)) else (none)))) = some (r1, r2) := h
  clear h
  by_cases c2 : (l0.length : Int) > 64
  · rw [if_pos c2] at H
    have c2b0 : decide (64 < (l0.length : Int)) = true := decide_eq_true c2
    have c2b1 : decide (64 < l0.length) = true := decide_eq_true (by omega)
    clear c2
    simp only [Option.some.injEq, Prod.mk.injEq] at H
    obtain ⟨rfl, rfl⟩ := H
    go_enter Try.func45, Try.ntmps45
    go_wp2
    go_ret2
    exact ⟨_, by first | rfl | (simp [errW_none, errW_some] <;> rfl) | (simp [*, errW_none, errW_some] <;> rfl), by first | exact Kd.R_nil _ _ _ _ _ | exact Kd.N_nil _ _ _ _ _ | exact Kd.V_nil _ _ _ _ _ | exact Kd.Q_nil _ _ _ _ _ | exact Kd.S_nil _ _ _ _ _, by repeat (first | (with_reducible first | exact HB.out | apply below_alloc | apply pw_below_drewN | apply below_drew1) | exact HB.out)⟩
  · rw [if_neg c2] at H
    have c2b0 : decide (64 < (l0.length : Int)) = false := decide_eq_false c2
    have c2b1 : decide (64 < l0.length) = false := decide_eq_false (by omega)
    clear c2
    replace H := Option.bind_eq_some_iff.mp H
    obtain ⟨t263, A30, H⟩ := H
    replace H : (if t263.length + l0.length < 140737488355328 then (some ((t263 ++ l0), 0)) else (none)) = some (r1, r2) := H
    have A3 := Aside0.mk A30
    clear A30
    by_cases c4 : t263.length + l0.length < 140737488355328
    · rw [if_pos c4] at H
      have LMc4 := Aside0.mk c4
      clear c4
      obtain ⟨y266, hy266⟩ : ∃ y_ : List Int, y_ = (t263 ++ l0) := ⟨_, rfl⟩
      replace H : (some (y266, 0)) = some (r1, r2) := by first | (rw [hy266]; with_reducible exact H) | (have H2_ := (Option.bind_some _ _).symm.trans H; rw [hy266]; with_reducible exact H2_) | (have H2_ := (Option.bind_some _ _).symm.trans H; with_reducible exact H2_) | with_reducible exact H | (rw [hy266]; exact H) | exact H
      have Ny266 := Aside0.mk hy266
      clear hy266
      simp only [Option.some.injEq, Prod.mk.injEq] at H
      obtain ⟨rfl, rfl⟩ := H
      go_enter Try.func45, Try.ntmps45
      go_wp2_with (first | ((with_reducible refine gate_callee (f := 101) rfl ?_); refine goesL_ (some 10) rfl rfl Try.func101 (by kernel_rfl) rfl #[.int .u64 (IntKind.u64.wrap ((l0.length : Int))), .int .i64 2] rfl (by (try simp only [List.map_toArray, List.map_cons, List.map_nil]); first | done | rfl | (simp only [List.length_drop, List.length_take]; rfl)) ?_; (with_reducible refine (damperref03_Uint.calls k (IntKind.u64.wrap ((l0.length : Int))) 2 t263 _ A3.out).mono ?_); rintro e w5 ⟨v264, rfl, ho0, hb⟩; refine ⟨_, rfl, ?_⟩; have n0_ := Aside0.mk (Kd.R_lower ho0 (below_size (by repeat (first | (with_reducible first | exact HB.out | apply below_alloc | apply pw_below_drewN | apply below_drew1) | exact HB.out)))); have n1_ := Aside0.mk (below_step (by repeat (first | (with_reducible first | exact HB.out | apply below_alloc | apply pw_below_drewN | apply below_drew1) | exact HB.out)) hb); clear HB; have HO265 := n0_; have HB := n1_; clear n0_ n1_; (try clear hb); (try clear hb2); (try clear hk); (try clear hi); (try clear ho0)) | ((with_reducible refine gate_builtin (b := .append) (xs := #[.tmp 10, .tmp 11]) rfl ?_); at_builtin; refine Kd.R_append_rows (Kd.int .u8) (w0 := w) w.heap.size rfl (.tmp 10) (.tmp 11) 30 5 (.int .u8 0) 1 rfl Try.underlying30 info5 rfl (by decide) (by omega) v264 t263 l0 _ _ _ (fun _ => True) (fun _ => False) rfl rfl ?aO ?aR (fun _ _ h => h) (fun _ h => h.elim) ?aF ?aB ?aS ?aL ?_; (case aR => repeat (first | exact (Kd.C_below HR0.out HB.out) | (with_reducible refine Kd.C_alloc ?_ _) | (with_reducible refine Kd.C_drewN ?_ _) | (with_reducible refine Kd.C_drew ?_))); (case aB => exact (by repeat (first | (with_reducible first | exact HB.out | apply below_alloc | apply pw_below_drewN | apply below_drew1) | exact HB.out))); (case aF => exact (fun _ _ => trivial)); (case aO => exact (by (with_reducible repeat (first | apply Kd.R_alloc | apply Kd.R_drewN | apply Kd.R_drew)); exact HO265.out)); (case aS => exact (below_size (by repeat (first | (with_reducible first | exact HB.out | apply below_alloc | apply pw_below_drewN | apply below_drew1) | exact HB.out)))); (case aL => have := LMc4.out; omega); intro v267 w6 ho hb hg hat; rw [← Ny266.out] at ho; have n0_ := Aside0.mk (hb); have n1_ := Aside0.mk (ho); clear HB; clear HO265; have HB := n0_; have HO268 := n1_; clear n0_ n1_; clear ho hb hg hat))
      go_ret2
      exact ⟨_, by first | rfl | (simp [errW_none, errW_some] <;> rfl) | (simp [*, errW_none, errW_some] <;> rfl), by (with_reducible repeat (first | apply Kd.R_alloc | apply Kd.R_drewN | apply Kd.R_drew)); exact HO268.out, by repeat (first | (with_reducible first | exact HB.out | apply below_alloc | apply pw_below_drewN | apply below_drew1) | exact HB.out)⟩
    · rw [if_neg c4] at H
      exact absurd H (by simp)

end Go.Proofs.Ytalpemoodollpaa.P
/- Frames: the walk of FrameTakes. -/
namespace Go.Proofs.Ytalpemoodollpaa.P
open Go.RowKit Go.Proofs.YtalpemoodollpaaW.PrintWords Go.Proofs.YtalpemoodollpaaW.PrintLast Go.Proofs.YtalpemoodollpaaW.PrintMore
set_option linter.unusedVariables false
set_option linter.unusedSimpArgs false
theorem refPut (l : List Int) (k : Nat) (hk : 12 ≤ k) : damperref04_Put.f k l = some (if l.length ≤ 64 then (uintForm l.length 2 ++ l, 0) else ([], 9)) := by
  unfold damperref04_Put.f
  by_cases h : l.length ≤ 64
  · have e : IntKind.u64.wrap (l.length : Int) = (l.length : Int) := by rw [wrap_u64]; omega
    rw [if_neg (by omega), if_pos h, e, refUint _ 2 (by omega) (by omega) (by omega) (by omega) k hk]
    simp only [Option.bind_some, Int.toNat_natCast, uintForm_length, show (2 : Int).toNat = 2 from rfl]
    rw [if_pos (by omega)]
  · rw [if_pos (by omega), if_neg h]
theorem alive04 : damperlaw04_alive.f = some true := by
  have h1 : frame_Put.f [7] = some ([0, 1, 7], 0) := by
    unfold frame_Put.f
    decide
  have h2 : frame_Take.f [0, 1, 7] = some ([7], 3, 0) := by
    unfold frame_Take.f
    decide
  unfold damperlaw04_alive.f
  rw [h1]
  simp only [Option.bind_some, h2]
  decide
theorem byt_bytB {l : List Int} (h : Byt l) : bytB l = true := by
  unfold bytB
  simpa [Byt] using h
theorem alive04_calls (w : World) : Calls Try.prog 43 #[] w fun e w' => e = .returned (.bool true) ∧ Below w.heap.size w w' := damperlaw04_alive.calls true w alive04
set_option maxRecDepth 100000 in
set_option maxHeartbeats 2000000 in
theorem frameTakes_calls (A0 : Option Addr) (c0 : Nat) (l0 : List Int) (A1 : Option Addr) (c1 : Nat) (l1 : List Int) (w : World) (hr0 : Kd.C (Kd.int .u8) w A0 l0.length l0) (hc0 : l0.length ≤ c0)
    (hr1 : Kd.C (Kd.int .u8) w A1 l1.length l1) (hc1 : l1.length ≤ c1) (hb : Byt l1) :
    Calls Try.prog 7 #[.slice A0 l0.length c0, .slice A1 l1.length c1] w fun e w' => e = .returned (.bool true) ∧ Below w.heap.size w w' := by
  have HR0 := Aside0.mk hr0
  have HR1 := Aside0.mk hr1
  have HC0 := Aside0.mk hc0
  have HC1 := Aside0.mk hc1
  have HB := Aside0.mk hb
  have hx := hr0.2.1
  have hy := hr1.2.1
  clear hr0 hr1 hc0 hc1 hb
  by_cases hbig : 200 < l0.length ∨ 400 < l1.length
  · have HA := Aside0.mk (alive04_calls)
    go_enter Try.func7, Try.ntmps7
    by_cases hb0 : 200 < l0.length
    · go_wp2_with fail
      refine (HA.out _).mono ?_
      rintro e w1 ⟨rfl, hb1⟩
      go_wp2
      go_ret
      exact ⟨rfl, hb1⟩
    · have hb1 : 400 < l1.length := hbig.resolve_left hb0
      go_wp2_with fail
      refine (HA.out _).mono ?_
      rintro e w1 ⟨rfl, hb1⟩
      go_wp2
      go_ret
      exact ⟨rfl, hb1⟩
  · have hs0 : l0.length ≤ 200 := by omega
    have hs1 : l1.length ≤ 400 := by omega
    clear hbig hx hy
    have HBIG := Aside0.mk hs1
    have hput : frame_Put.f l0 = some (if l0.length ≤ 64 then (uintForm l0.length 2 ++ l0, 0) else ([], 9)) := rfl
    have hrput := refPut l0 12 (by omega)
    have htake : frame_Take.f l1 = some (takeF l1) := by
      unfold frame_Take.f
      rw [if_pos ⟨byt_bytB HB.out, by omega⟩]
    have hrtake := fun w (h1 : Kd.C (Kd.int .u8) w A1 l1.length l1) => refTake_calls A1 c1 l1 w h1 HC1.out HB.out (by omega)
    revert hput hrput htake hrtake
    generalize (if l0.length ≤ 64 then (uintForm l0.length 2 ++ l0, (0 : Int)) else ([], 9)) = P
    generalize takeF l1 = T
    obtain ⟨px, pf⟩ := P
    obtain ⟨tx, tn, tf⟩ := T
    intro hput hrput htake hrtake
    have H1 := Aside0.mk hput
    have H2 := Aside0.mk hrput
    have H3 := Aside0.mk htake
    have H4 := Aside0.mk hrtake
    have HA := Aside0.mk (alive04_calls)
    clear hput hrput htake hrtake
    go_enter Try.func7, Try.ntmps7
    go_wp2_with fail
    refine (frame_Put.calls A0 c0 l0 px pf w HR0.out HC0.out H1.out).mono ?_
    rintro e w1 ⟨v1, rfl, hR, hb⟩
    obtain ⟨X1, x1, rfl, hq, hC⟩ := Kd.R_reads hR
    have CX := Aside0.mk hC
    have QX := Aside0.mk hq
    have B1 := Aside0.mk hb
    have G0 := Aside0.mk (Kd.C_below HR0.out hb)
    have G1 := Aside0.mk (Kd.C_below HR1.out hb)
    clear hR hb hC hq HR0 HR1
    go_wp2_with fail
    refine (damperref04_Put.calls 12 A0 c0 l0 px pf w1 G0.out HC0.out H2.out).mono ?_
    rintro e w2 ⟨v2, rfl, hR, hb⟩
    obtain ⟨X2, x2, rfl, hq, hC⟩ := Kd.R_reads hR
    have CY := Aside0.mk hC
    have QY := Aside0.mk hq
    have CX2 := Aside0.mk (Kd.C_below CX.out hb)
    have B2 := Aside0.mk (B1.out.trans (Below.mono hb B1.out.size))
    have G2 := Aside0.mk (Kd.C_below G1.out hb)
    clear hR hb hC hq G0 G1 CX B1 H1 H2
    go_wp2_with fail
    refine (frame_Take.calls A1 c1 l1 tx tn tf w2 G2.out HC1.out H3.out).mono ?_
    rintro e w3 ⟨v3, rfl, hR, hb⟩
    obtain ⟨X3, x3, rfl, hq, hC⟩ := Kd.R_reads hR
    have CU := Aside0.mk hC
    have QU := Aside0.mk hq
    have CX3 := Aside0.mk (Kd.C_below CX2.out hb)
    have CY3 := Aside0.mk (Kd.C_below CY.out hb)
    have B3 := Aside0.mk (B2.out.trans (Below.mono hb B2.out.size))
    have G3 := Aside0.mk (Kd.C_below G2.out hb)
    clear hR hb hC hq G2 CX2 CY B2 H3
    go_wp2_with fail
    refine (H4.out w3 G3.out).mono ?_
    rintro e w4 ⟨X4, x4, rfl, hC, hq, hb⟩
    have CV := Aside0.mk hC
    have QV := Aside0.mk hq
    have CX4 := Aside0.mk (Kd.C_below CX3.out hb)
    have CY4 := Aside0.mk (Kd.C_below CY3.out hb)
    have CU4 := Aside0.mk (Kd.C_below CU.out hb)
    have B4 := Aside0.mk (B3.out.trans (Below.mono hb B3.out.size))
    clear hb hC hq G3 CX3 CY3 CU B3 H4
    go_wp2_with fail
    refine (damperref03_Same.calls X1 x1 px X2 x2 px true w4 CX4.out QX.out CY4.out QY.out (same_of_eq px)).mono ?_
    rintro e w5 ⟨rfl, hd⟩
    have B5 := Aside0.mk (Below.trans B4.out (Below.mono hd.below B4.out.size))
    have CU5 := Aside0.mk (Kd.C_below CU4.out hd.below)
    have CV5 := Aside0.mk (Kd.C_below CV.out hd.below)
    clear hd CX4 CY4 CU4 CV B4 QX QY
    go_wp2_with fail
    refine (damperref03_Same.calls X3 x3 tx X4 x4 tx true w5 CU5.out QU.out CV5.out QV.out (same_of_eq tx)).mono ?_
    rintro e w6 ⟨rfl, hd⟩
    have B6 := Aside0.mk (Below.trans B5.out (Below.mono hd.below B5.out.size))
    clear hd CU5 CV5 B5 QU QV
    go_wp2_with fail
    refine (HA.out w6).mono ?_
    rintro e w7 ⟨rfl, hd⟩
    have B7 := Aside0.mk (Below.trans B6.out (Below.mono hd B6.out.size))
    clear hd
    go_wp2
    go_ret
    exact ⟨rfl, B7.out⟩
theorem byt_wf {l : List Int} (h : ∀ y ∈ l, (Lit.int .u8 y).wf = true) : Byt l := fun b hb => by
  have := bounds_u8 (h b hb)
  omega
end Go.Proofs.Ytalpemoodollpaa.P
/- The walk of FrameEach. -/
namespace Go.Proofs.Ytalpemoodollpaa.P
open Go.RowKit Go.Shelf Go.Proofs.YtalpemoodollpaaW.PrintWords Go.Proofs.YtalpemoodollpaaW.PrintLast Go.Proofs.YtalpemoodollpaaW.PrintMore
set_option linter.unusedVariables false
set_option linter.unusedSimpArgs false
attribute [local go_sem] Oper.semAt_some
/-- Between two rounds: the boxes, and how many have come. -/
structure EI (w0 w5 : World) (v1 v2 : Value) (st : Int) (k : Nat) (W : World) : Prop where
  fr : Fr w5 W (fun k => k = w0.heap.size + 1)
  bl : Below w0.heap.size w0 W
  h3 : W.heap[w0.heap.size]? = some (.cells #[.int .i64 st] 3 (0, 0))
  h4 : W.heap[w0.heap.size + 1]? = some (.cells #[.bool false] 4 (0, 0))
  h5 : W.heap[w5.heap.size]? = some (.cells #[v1] 61 (0, 0))
  h6 : W.heap[w5.heap.size + 1]? = some (.cells #[v2] 62 (0, 0))
  h9 : W.heap[w5.heap.size + 1 + 1]? = some (.cells #[.int .i64 (k : Int)] 3 (0, 0))
  lt : w5.heap.size + 1 + 1 + 1 < W.heap.size
theorem blk_own {A B : World} {B0 b : Nat} {t : TypeId} {cs : Array Value} {row : Option Nat} (h : A.heap[b]? = some (.cells cs t (0, 0))) (hg : A.grownBy B row) (hr : ∀ r, row = some r → B0 ≤ r ∧ ∃ o : Obj, A.heap[r]? = some o ∧ o.isCells = false) : B.heap[b]? = some (.cells cs t (0, 0)) := by
  refine (hg.block b (blk_lt h) ?_).trans h
  intro e
  obtain ⟨_, o, ho, hc⟩ := hr b e.symm
  rw [h] at ho
  cases ho
  exact absurd hc (by simp [Obj.isCells])
theorem EI.own {w0 w5 w7 : World} {v1 v2 : Value} {st : Int} (hz : w0.heap.size + 2 ≤ w5.heap.size) (h7 : w5.heap.size ≤ w7.heap.size) {k : Nat} {A B : World} {row : Option Nat} (h : EI w0 w5 v1 v2 st k A) (hg : A.grownBy B row)
    (hr : ∀ r, row = some r → w7.heap.size ≤ r ∧ ∃ o : Obj, A.heap[r]? = some o ∧ o.isCells = false) : EI w0 w5 v1 v2 st k B :=
  ⟨h.fr.grown hg (fun k hk e => by have := (hr k e).1; omega), h.bl.grown hg h.bl.size (fun k e => by have := (hr k e).1; omega), blk_own h.h3 hg hr, blk_own h.h4 hg hr, blk_own h.h5 hg hr, blk_own h.h6 hg hr, blk_own h.h9 hg hr, by have := hg.size; have := h.lt; omega⟩
theorem EI.below {w0 w5 : World} {v1 v2 : Value} {st : Int} {k : Nat} {A B : World} (h : EI w0 w5 v1 v2 st k A) (hb : Below A.heap.size A B) : EI w0 w5 v1 v2 st k B :=
  ⟨h.fr.trans (Fr.of_below hb _) (fun _ _ e => e), below_then h.bl h.bl.size hb, blk_below h.h3 hb, blk_below h.h4 hb, blk_below h.h5 hb, blk_below h.h6 hb, blk_below h.h9 hb, by have := hb.size; have := h.lt; omega⟩
theorem EI.step {w0 w5 : World} {v1 v2 : Value} {st : Int} {k : Nat} {A : World} (hz : w0.heap.size + 2 ≤ w5.heap.size) (h : EI w0 w5 v1 v2 st k A) :
    EI w0 w5 v1 v2 st (k + 1) (A.setCell ⟨w5.heap.size + 1 + 1, 0, none⟩ (.int .i64 ((k : Int) + 1))) :=
  ⟨h.fr.setCell _ _ (fun e => by simp at e; omega), h.bl.setCell (by simp; omega) _, blk_far h.h3 (by simp; omega) _, blk_far h.h4 (by simp; omega) _, blk_far h.h5 (by simp; omega) _, blk_far h.h6 (by simp) _,
    by rw [show ((k + 1 : Nat) : Int) = (k : Int) + 1 by omega]; exact blk_put h.h9 0 _ rfl, by simpa using h.lt⟩
theorem EI.rows {w0 w1 w5 : World} {bs : List Int} {A0 : Option Addr} {X1 X2 : Option Addr} {m1 m2 : Nat} {st : Int} {k : Nat} {W : World} {FF : List (List Int)} {at_ : Int} {p : List Int} (h : EI w0 w5 (.slice X1 FF.length m1) (.slice X2 FF.length m2) st k W) (hz : w0.heap.size + 2 ≤ w1.heap.size)
    (hC : Kd.C (Kd.int .u8) w0 A0 bs.length bs) (h1 : Kd.R (Kd.int .i64) 3 w5 w1.heap.size (fun _ => True) (.slice X1 FF.length m1) (placesOf 0 FF)) (h2 : Kd.R (kIn A0 bs) 30 w5 w1.heap.size (fun _ => True) (.slice X2 FF.length m2) FF)
    (hn : k < FF.length ∧ (placesOf 0 FF)[k]? = some at_ ∧ FF[k]? = some p) :
    ∃ a1 a2 A c, X1 = some a1 ∧ X2 = some a2 ∧ W.cell? (a1.add k) = some (.int .i64 at_) ∧ W.cell? (a2.add k) = some (.slice A p.length c) ∧ p.length ≤ c ∧ Kd.C (Kd.int .u8) W A p.length p := by
  have r1 := Kd.R_step (w1 := W) (Kd.R_bound h1) (fun k hk hlt => h.fr.block k hlt (by rintro rfl; have := hk.2.1; omega))
  have r2 := Kd.R_step (w1 := W) (Kd.R_bound h2) (fun k hk hlt => h.fr.block k hlt (by rintro rfl; have := hk.2.1; omega))
  have q1 := (Kd.R_reads' r1).2.2
  have q2 := kIn_C (Kd.R_reads' r2).2.2 (Kd.C_below hC h.bl)
  rw [placesOf_length] at q1
  obtain ⟨a1, rfl, c1⟩ := Kd.at_int q1 (k : Int) (by omega) (by omega)
  obtain ⟨a2, A, c, rfl, c2, hq, hCC⟩ := at_L4 q2 (k : Int) (by omega) (by omega)
  rw [Int.toNat_natCast] at c1 c2
  have e1 : rd (placesOf 0 FF) (k : Int) = at_ := by rw [rd, Int.toNat_natCast, List.getD_eq_getElem?_getD, hn.2.1]; rfl
  have e2 : rd_L4 FF (k : Int) = p := by rw [rd_L4, Int.toNat_natCast, List.getD_eq_getElem?_getD, hn.2.2]; rfl
  rw [e1] at c1
  rw [e2] at c2 hq hCC
  exact ⟨a1, a2, A, c, rfl, rfl, c1, c2, hq, hCC⟩
set_option maxRecDepth 100000 in
set_option maxHeartbeats 4000000 in
theorem frameEach_calls (A0 : Option Addr) (c0 : Nat) (bs : List Int) (st : Int) (w : World) (hr0 : Kd.C (Kd.int .u8) w A0 bs.length bs) (hc0 : bs.length ≤ c0) (hb : Byt bs) :
    Calls Try.prog 9 #[.slice A0 bs.length c0, .int .i64 st] w fun e w' => e = .returned (.bool true) ∧ Below w.heap.size w w' := by
  have HR0 := Aside0.mk hr0
  have HC0 := Aside0.mk hc0
  have HY := Aside0.mk hb
  obtain ⟨N, hN⟩ : ∃ N, bs.length = N := ⟨_, rfl⟩
  have HN := Aside0.mk hN
  rw [hN]
  clear hr0 hc0 hb hN
  have HA := Aside0.mk (alive04_calls)
  refine (callsIn_wide (n := 4)).1 ?_
  refine callsIn_of_wp_marks Try.func9 rfl trivial ?_ rfl
  simp only [Try.ntmps9, List.size_toArray, List.length_cons, List.length_nil, Nat.reduceAdd, Nat.reduceSub, Array.replicate_succ, Array.replicate_zero, List.push_toArray, List.append_toArray, List.nil_append, List.cons_append]
  gi_wp2_with fail
  refine ⟨trivial, ?_⟩
  refine (callsIn_wide.2 (HA.out _)).mono ?_
  rintro e w1 ⟨rfl, hb1⟩
  have B1 : Aside0 (Below w.heap.size w w1) := ⟨Below.trans (((Below.refl _ w).alloc (Nat.le_refl _) _).alloc (by simp) _) (hb1.mono (by simp; omega))⟩
  have Z1 := Aside0.mk (show w.heap.size + 2 ≤ w1.heap.size by have := hb1.size; simp at this; omega)
  have h3 : Aside0 (w1.heap[w.heap.size]? = some (.cells #[.int .i64 st] 3 (0, 0))) := ⟨(hb1.block w.heap.size (by simp; omega)).trans (blk_alloc (blk_new w (.cells #[.int .i64 st] 3)) (.cells #[.bool false] 4))⟩
  have h4 : Aside0 (w1.heap[w.heap.size + 1]? = some (.cells #[.bool false] 4 (0, 0))) := ⟨(hb1.block (w.heap.size + 1) (by simp)).trans (by have := blk_new (w.alloc (.cells #[.int .i64 st] 3)) (.cells #[.bool false] 4); rwa [World.size_alloc] at this)⟩
  clear hb1
  have c4_ : w1.cell? ⟨w.heap.size + 1, 0, none⟩ = some (.bool false) := (blk_cell h4.out 0).trans rfl
  have f4_ := blk_frozen h4.out 0
  have c3_ : w1.cell? ⟨w.heap.size, 0, none⟩ = some (.int .i64 st) := (blk_cell h3.out 0).trans rfl
  by_cases hbig : 400 < N
  · have hbig2 : (400 : Int) < (N : Int) := by omega
    gi_wp2
    refine ⟨.bool true, ?_, rfl, B1.out.setCell (p := ⟨w.heap.size + 1, 0, none⟩) (by simp) _⟩
    have hc5 := World.cell?_setCell_same' w1 ⟨w.heap.size + 1, 0, none⟩ (.bool true) (by rw [c4_]; rfl)
    simp [results, Try.f9, go_sem, hc5]
  · have hs2 : (N : Int) ≤ 400 := by omega
    have RA := refAll_calls A0 c0 bs w1 (Kd.C_below HR0.out B1.out) HC0.out (by rw [HN.out]; omega) HY.out
    rw [HN.out] at RA
    have RA := Aside0.mk RA
    generalize hF : frames bs = G
    have HF := Aside0.mk hF
    rw [hF] at RA
    clear hF
    gi_wp2_with fail
    refine ⟨trivial, ?_⟩
    refine (callsIn_wide.2 RA.out).mono ?_
    rintro e w5 ⟨v1, v2, rfl, hR1, hR2, hb5⟩
    obtain ⟨FF, en, ef⟩ := G
    dsimp only at hR1 hR2 ⊢
    obtain ⟨X1, m1, e1⟩ := Kd.R_slice hR1
    rw [placesOf_length] at e1
    subst e1
    obtain ⟨X2, m2, rfl⟩ := Kd.R_slice hR2
    have H1 := Aside0.mk hR1
    have H2 := Aside0.mk hR2
    have B5 := Aside0.mk (below_then B1.out B1.out.size hb5)
    have g3 := Aside0.mk (blk_below h3.out hb5)
    have g4 := Aside0.mk (blk_below h4.out hb5)
    have Z5 := Aside0.mk (Nat.le_trans Z1.out hb5.size)
    clear hR1 hR2 hb5 h3 h4 c3_ c4_ f4_ RA B1
    gi_wp2_with fail
    refine ⟨trivial, ?_⟩
    refine (callsIn_wide.2 (each_calls _ _ _ _)).mono ?_
    rintro e w7 ⟨rfl, e7⟩
    gi_wp2_with fail
    have E7 : EI w w5 (.slice X1 FF.length m1) (.slice X2 FF.length m2) st 0 ((((w5.alloc (Obj.cells #[Value.slice X1 FF.length m1] 61)).alloc (Obj.cells #[Value.slice X2 FF.length m2] 62)).alloc (Obj.cells #[Value.int IntKind.i64 0] 3)).alloc (Obj.cells #[Value.slice A0 N c0] 30)) := by
      have b1 := blk_new w5 (Obj.cells #[Value.slice X1 FF.length m1] 61)
      have b2 := blk_new (w5.alloc (Obj.cells #[Value.slice X1 FF.length m1] 61)) (Obj.cells #[Value.slice X2 FF.length m2] 62)
      have b3 := blk_new ((w5.alloc (Obj.cells #[Value.slice X1 FF.length m1] 61)).alloc (Obj.cells #[Value.slice X2 FF.length m2] 62)) (Obj.cells #[Value.int IntKind.i64 0] 3)
      simp only [World.size_alloc] at b2 b3
      exact ⟨Fr.of_below (((((Below.refl _ w5).alloc (Nat.le_refl _) _).alloc (by simp) _).alloc (by simp; omega) _).alloc (by simp; omega) _) _, below_then B5.out B5.out.size (((((Below.refl _ w5).alloc (Nat.le_refl _) _).alloc (by simp) _).alloc (by simp; omega) _).alloc (by simp; omega) _),
        blk_alloc (blk_alloc (blk_alloc (blk_alloc g3.out _) _) _) _, blk_alloc (blk_alloc (blk_alloc (blk_alloc g4.out _) _) _) _, blk_alloc (blk_alloc (blk_alloc b1 _) _) _, blk_alloc (blk_alloc b2 _) _, blk_alloc b3 _, by simp⟩
    have hBs := blk_new (((w5.alloc (Obj.cells #[Value.slice X1 FF.length m1] 61)).alloc (Obj.cells #[Value.slice X2 FF.length m2] 62)).alloc (Obj.cells #[Value.int IntKind.i64 0] 3)) (Obj.cells #[Value.slice A0 N c0] 30)
    simp only [World.size_alloc] at hBs
    have hz7 : w5.heap.size + 4 = ((((w5.alloc (Obj.cells #[Value.slice X1 FF.length m1] 61)).alloc (Obj.cells #[Value.slice X2 FF.length m2] 62)).alloc (Obj.cells #[Value.int IntKind.i64 0] 3)).alloc (Obj.cells #[Value.slice A0 N c0] 30)).heap.size := by simp
    clear e7
    generalize ((((w5.alloc (Obj.cells #[Value.slice X1 FF.length m1] 61)).alloc (Obj.cells #[Value.slice X2 FF.length m2] 62)).alloc (Obj.cells #[Value.int IntKind.i64 0] 3)).alloc (Obj.cells #[Value.slice A0 N c0] 30)) = w7 at *
    have hz5 := Z5.out
    have hz1 := Z1.out
    have hw7 := E7.bl.size
    have hRB : RB w A0 bs c0 := ⟨HR0.out, HC0.out, HY.out, by rw [HN.out]; omega⟩
    have hFF : (frames bs).1 = FF := by rw [HF.out]
    have hFN : 2 * FF.length ≤ N := by
      have := frames_count bs.length bs (Nat.le_refl _) HY.out
      have h2 := frames_end bs HY.out
      rw [hFF] at this
      rw [HN.out] at h2
      omega
    have hST := each_stops 3 (w5.heap.size + 1 + 1 + 1) w.heap.size A0 c0 bs w w7 (by omega) (by omega) (by rw [HN.out]; exact hBs) hRB rfl E7.bl (by rw [HN.out]; omega)
    rw [hFF] at hST
    clear hbig
    refine wpIn_rangeFunc_pr rfl (by omega) (gf := 111) (lb := #[.pointer (some ⟨w5.heap.size + 1 + 1 + 1, 0, none⟩)]) rfl trivial (enters_of Try.func111 (by kernel_rfl) rfl)
      hST PrE.put (fun h k => h.t k) (fun W l o o' hl h h1 h2 => KpE.b (w := w7) (by omega) (by omega) W l o o' hl h h1 h2) (Below.refl _ _) (fun _ => rfl)
      (fun pre W => EI w w5 (.slice X1 FF.length m1) (.slice X2 FF.length m2) st pre.length W ∧ ∀ k : Nat, 1 ≤ k → k ≤ pre.length → (k : Int) ≠ st)
      (fun c pre W => c = .exit 0 ∧ EI w w5 (.slice X1 FF.length m1) (.slice X2 FF.length m2) st pre.length W ∧ 1 ≤ pre.length ∧ (pre.length : Int) = st)
      (fun s A B row hs hg hr => ⟨hs.1.own (w7 := w7) hz5 (by omega) hg hr, hs.2⟩)
      (fun c s A B row hs hg hr => ⟨hs.1, hs.2.1.own (w7 := w7) hz5 (by omega) hg hr, hs.2.2⟩)
      ⟨E7, fun k h1 h2 => by simp at h2; omega⟩
      (fun x => { tmps := #[Value.slice A0 N c0, Value.int IntKind.i64 st, undef, Value.pointer (some { block := w.heap.size, off := 0 }), Value.pointer (some { block := w.heap.size + 1, off := 0 }),
          Value.pointer (some { block := w5.heap.size, off := 0 }), Value.pointer (some { block := w5.heap.size + 1, off := 0 }), Value.int IntKind.i64 (en : Int),
          Value.int IntKind.i64 ef, Value.pointer (some { block := w5.heap.size + 1 + 1, off := 0 }), .int .i64 x.at_, x.v,
          undef, Value.bool true, Value.bool false, Value.slice A0 N c0, Value.int IntKind.i64 (N : Int), Value.bool (decide (400 < (N : Int))),
          Value.tuple #[Value.slice X1 FF.length m1, Value.slice X2 FF.length m2, Value.int IntKind.i64 (en : Int), Value.int IntKind.i64 ef], Value.slice A0 N c0,
          Value.tuple #[Value.slice X1 FF.length m1, Value.slice X2 FF.length m2, Value.int IntKind.i64 (en : Int), Value.int IntKind.i64 ef], Value.slice X1 FF.length m1, Value.slice X2 FF.length m2, Value.int IntKind.i64 (en : Int), Value.int IntKind.i64 ef,
          Value.slice A0 N c0, Value.func (Fn.func 111) #[] #[Value.pointer (some { block := w5.heap.size + 1 + 1 + 1, off := 0 })], .int .i64 x.at_, x.v, undef, undef, undef, undef, undef, undef, undef, undef, undef, undef, undef, undef, undef, undef, undef, undef, undef, undef, undef, undef, undef, undef, undef, undef, undef, undef, undef, undef, undef, undef, undef, undef, undef, undef, undef, undef, undef, undef, undef], defers := [] }) ?assign ?body ?done ?stop
    case assign =>
      intro l x W K hK
      simp only [encE]
      gi_wp2
      exact hK
    case body =>
      rintro l pre ⟨at_, v, p⟩ W ⟨hE, hns⟩ ⟨A, c, hv, hq, hC⟩ hsp hlen
      have hcn := came_next hsp
      dsimp only at hv hq hC hcn ⊢
      subst hv
      generalize hk : pre.length = k at *
      obtain ⟨a1, a2, A', c', rfl, rfl, hc1, hc2, hq', hC'⟩ := hE.rows (by omega) HR0.out H1.out H2.out hcn
      have hBW : w5.heap.size + 1 + 1 + 1 < W.heap.size := hE.lt
      have HE := Aside0.mk hE
      have HQ := Aside0.mk hq
      have HC := Aside0.mk hC
      have HQ' := Aside0.mk hq'
      have HC' := Aside0.mk hC'
      have HNS := Aside0.mk hns
      have hkN : (k : Int) < (FF.length : Int) := by omega
      have hkM : (FF.length : Int) ≤ 400 := by omega
      have c9_ : W.cell? ⟨w5.heap.size + 1 + 1, 0, none⟩ = some (.int .i64 (k : Int)) := (blk_cell hE.h9 0).trans rfl
      have c5_ : W.cell? ⟨w5.heap.size, 0, none⟩ = some (.slice (some a1) FF.length m1) := (blk_cell hE.h5 0).trans rfl
      have c6_ : W.cell? ⟨w5.heap.size + 1, 0, none⟩ = some (.slice (some a2) FF.length m2) := (blk_cell hE.h6 0).trans rfl
      clear hE hq hC hq' hC' hns hsp hcn
      gi_wp2_with fail
      refine ⟨trivial, ?_⟩
      refine (CallsIn.inRound l (callsIn_wide.2 (damperref03_Same.calls A c p A' c' p true W HC.out HQ.out HC'.out HQ'.out (same_of_eq p)))).mono ?_
      rintro e w8 ⟨rfl, hd8⟩
      have hb8 := hd8.below
      clear hd8
      have hE8 := HE.out.below hb8
      have hKO : KeepsOthers W (w8.setCell ⟨w5.heap.size + 1 + 1, 0, none⟩ (.int .i64 ((k : Int) + 1))) := (KeepsOthers.of_grownBy (row := none) (grown_of_below hb8 none) (fun j o e => by cases e)).trans (KeepsOthers.setCell _ _ _)
      have hKP : KpE w.heap.size (w5.heap.size + 1 + 1 + 1) W (w8.setCell ⟨w5.heap.size + 1 + 1, 0, none⟩ (.int .i64 ((k : Int) + 1))) :=
        (KpE.below (KpE.refl _ _ W) HE.out.bl.size hBW hb8).t ⟨(Below.refl _ _).setCell (by simp; omega) _, Below.heap_setCell _ _ _ _ (by simp)⟩
      have HST := Aside0.mk (hE8.step hz5)
      have HKO := Aside0.mk hKO
      have HKP := Aside0.mk hKP
      have d9_ : w8.cell? ⟨w5.heap.size + 1 + 1, 0, none⟩ = some (.int .i64 (k : Int)) := (blk_cell hE8.h9 0).trans rfl
      have e9_ := blk_frozen hE8.h9 0
      have d3_ : w8.cell? ⟨w.heap.size, 0, none⟩ = some (.int .i64 st) := (blk_cell hE8.h3 0).trans rfl
      have hne9 : w.heap.size ≠ w5.heap.size + 1 + 1 := by omega
      clear hE8 hKO hKP HE HQ HC HQ' HC' c9_ c5_ c6_ hc1 hc2 hb8
      by_cases hst : (k : Int) + 1 = st
      · subst hst
        gi_wp2
        exact ⟨HKO.out, rfl, by rw [List.length_append, hk]; exact HST.out, by simp, by rw [List.length_append, hk]; simp⟩
      · gi_wp2
        exact ⟨HKO.out, HKP.out, by rw [List.length_append, hk]; exact HST.out, fun j h1 h2 => by
          rw [List.length_append, hk] at h2
          simp at h2
          by_cases hj : j = k + 1
          · subst hj; push_cast; exact hst
          · exact HNS.out j h1 (by omega)⟩
    case done =>
      rintro D xs W hD hS ⟨hE, hns⟩ hK
      have hxl : xs.length = FF.length := by
        have := congrArg List.length hS
        rwa [eachL_length, came, List.length_map] at this
      rw [hxl] at hE hns
      have c9_ : W.cell? ⟨w5.heap.size + 1 + 1, 0, none⟩ = some (.int .i64 (FF.length : Int)) := (blk_cell hE.h9 0).trans rfl
      have c6_ : W.cell? ⟨w5.heap.size + 1, 0, none⟩ = some (.slice X2 FF.length m2) := (blk_cell hE.h6 0).trans rfl
      have c3_ : W.cell? ⟨w.heap.size, 0, none⟩ = some (.int .i64 st) := (blk_cell hE.h3 0).trans rfl
      have c4_ : W.cell? ⟨w.heap.size + 1, 0, none⟩ = some (.bool false) := (blk_cell hE.h4 0).trans rfl
      have f4_ := blk_frozen hE.h4 0
      have HE := Aside0.mk hE
      have HK := Aside0.mk hK
      have hkM : (FF.length : Int) ≤ 400 := by omega
      have hno : ¬ (0 < st ∧ st < (FF.length : Int)) := fun h => hns st.toNat (by omega) (by omega) (by omega)
      clear hE hK hns hS
      by_cases hs0 : 0 < st
      · have hs1 : (FF.length : Int) ≤ st := by omega
        clear hno
        gi_wp2
        have hK' := (KeepsOthers.setCell W ⟨w.heap.size + 1, 0, none⟩ (.bool true)).same D _ HK.out rfl
        refine ⟨by simp, .inl ⟨_, _, rfl, run_takeDeferred hK', ?_⟩⟩
        have hc5 := cell_kept (World.cell?_setCell_same' W ⟨w.heap.size + 1, 0, none⟩ (.bool true) (by rw [c4_]; rfl)) (grownBy_putObj' _ D (.deferred none)) (fun r e => by cases e; exact ⟨_, hK', rfl⟩)
        refine ⟨.bool true, ?_, rfl, (HE.out.bl.setCell (p := ⟨w.heap.size + 1, 0, none⟩) (by simp) _).trans (belowK_b (w := w) (Nat.le_refl _) _ D _ _ (by omega) hK' rfl rfl)⟩
        simp [results, Try.f9, go_sem, hc5]
      · clear hno
        have hs0' : st ≤ 0 := by omega
        gi_wp2
        have hK' := (KeepsOthers.setCell W ⟨w.heap.size + 1, 0, none⟩ (.bool true)).same D _ HK.out rfl
        refine ⟨by simp, .inl ⟨_, _, rfl, run_takeDeferred hK', ?_⟩⟩
        have hc5 := cell_kept (World.cell?_setCell_same' W ⟨w.heap.size + 1, 0, none⟩ (.bool true) (by rw [c4_]; rfl)) (grownBy_putObj' _ D (.deferred none)) (fun r e => by cases e; exact ⟨_, hK', rfl⟩)
        refine ⟨.bool true, ?_, rfl, (HE.out.bl.setCell (p := ⟨w.heap.size + 1, 0, none⟩) (by simp) _).trans (belowK_b (w := w) (Nat.le_refl _) _ D _ _ (by omega) hK' rfl rfl)⟩
        simp [results, Try.f9, go_sem, hc5]
    case stop =>
      rintro D c pre W hD hS ⟨rfl, hE, h1, hst⟩ hK
      obtain ⟨fs, hfs, hcs⟩ := hS
      have hle : pre.length ≤ FF.length := by
        have := congrArg List.length hcs
        rw [eachL_length, came, List.length_map] at this
        rw [this]
        exact hfs.length_le
      generalize pre.length = k at *
      subst hst
      have c9_ : W.cell? ⟨w5.heap.size + 1 + 1, 0, none⟩ = some (.int .i64 (k : Int)) := (blk_cell hE.h9 0).trans rfl
      have c6_ : W.cell? ⟨w5.heap.size + 1, 0, none⟩ = some (.slice X2 FF.length m2) := (blk_cell hE.h6 0).trans rfl
      have c3_ : W.cell? ⟨w.heap.size, 0, none⟩ = some (.int .i64 (k : Int)) := (blk_cell hE.h3 0).trans rfl
      have c4_ : W.cell? ⟨w.heap.size + 1, 0, none⟩ = some (.bool false) := (blk_cell hE.h4 0).trans rfl
      have f4_ := blk_frozen hE.h4 0
      have HE := Aside0.mk hE
      have HK := Aside0.mk hK
      have hkM : (FF.length : Int) ≤ 400 := by omega
      have hk0 : 0 < (k : Int) := by omega
      clear hE hK hcs
      by_cases hs0 : (k : Int) < (FF.length : Int)
      · gi_wp2
        have hK' := (KeepsOthers.setCell W ⟨w.heap.size + 1, 0, none⟩ (.bool true)).same D _ HK.out rfl
        refine ⟨by simp, .inl ⟨_, _, rfl, run_takeDeferred hK', ?_⟩⟩
        have hc5 := cell_kept (World.cell?_setCell_same' W ⟨w.heap.size + 1, 0, none⟩ (.bool true) (by rw [c4_]; rfl)) (grownBy_putObj' _ D (.deferred none)) (fun r e => by cases e; exact ⟨_, hK', rfl⟩)
        refine ⟨.bool true, ?_, rfl, (HE.out.bl.setCell (p := ⟨w.heap.size + 1, 0, none⟩) (by simp) _).trans (belowK_b (w := w) (Nat.le_refl _) _ D _ _ (by omega) hK' rfl rfl)⟩
        simp [results, Try.f9, go_sem, hc5]
      · obtain rfl : k = FF.length := by omega
        gi_wp2
        have hK' := (KeepsOthers.setCell W ⟨w.heap.size + 1, 0, none⟩ (.bool true)).same D _ HK.out rfl
        refine ⟨by simp, .inl ⟨_, _, rfl, run_takeDeferred hK', ?_⟩⟩
        have hc5 := cell_kept (World.cell?_setCell_same' W ⟨w.heap.size + 1, 0, none⟩ (.bool true) (by rw [c4_]; rfl)) (grownBy_putObj' _ D (.deferred none)) (fun r e => by cases e; exact ⟨_, hK', rfl⟩)
        refine ⟨.bool true, ?_, rfl, (HE.out.bl.setCell (p := ⟨w.heap.size + 1, 0, none⟩) (by simp) _).trans (belowK_b (w := w) (Nat.le_refl _) _ D _ _ (by omega) hK' rfl rfl)⟩
        simp [results, Try.f9, go_sem, hc5]
end Go.Proofs.Ytalpemoodollpaa.P
/- Bytes that came in are bytes. -/
namespace Go.Proofs.Ytalpemoodollpaa.P
open Go.RowKit Go.Proofs.YtalpemoodollpaaW.PrintWords Go.Proofs.YtalpemoodollpaaW.PrintLast Go.Proofs.YtalpemoodollpaaW.PrintMore
theorem byt_wf_ {l : List Int} (h : ∀ y ∈ l, (Lit.int .u8 y).wf = true) : Byt l := fun b hb => by
  have := bounds_u8 (h b hb)
  omega
end Go.Proofs.Ytalpemoodollpaa.P
