/- Contracts and plain laws: HRange, HRefTakeIn, HframesP, HAll53, HEach, HOpen, Hgot, HBox, HRK, HDS, P96, P32, HMsgPure, HmsgDec, HMsgAllP, HAppIn. -/
import Derived.RangeFuncFrom
import Derived.RangeFuncBound
import Derived.RangeFuncLeaves
import Derived.RangeFuncBox
import Derived.Deep.LoopGhost
import Derived.Deep.DeepCutAuto
import Derived.RangeFuncNested
import Derived.RangeFuncCalls
import Derived.Shelf.Abstract
import Derived.OwnWalkIn
import Derived.TacticsInMore
import Derived.LoopNIn
import Derived.LoopIn
import Derived.Deep.Slices
import Derived.Deep.Fields
import Derived.RegionTactic
import Derived.Deep.RegionHeld3
import Derived.Test.YtalpemoodollpaaX1
/- A range over a function whose elements lie in memory: the iterator tells, of each element that it hands on, what holds of it in the world at hand (Pr).
   (The law is the library's wpIn_rangeFunc_ownF, turned: a premise Pr more; out of the library's own steps: wpIn_rangeFunc, run_yield, run_beginRound, run_endRound, run_endLoop.) -/
namespace Go.Proofs.Ytalpemoodollpaa.P
open Go Go.RowKit
set_option linter.unusedVariables false
variable {F : Fence} {n : Nat} {P : Program} {α : Type}
def SeqPr (F : Fence) (n : Nat) (P : Program) (g : Nat) (lb : Array Value) (encs : α → Array Value) (Pr : α → World → Prop) (Kp : World → World → Prop) (S Sp : List α → Prop) (N : Nat) (w : World) : Prop :=
  ∀ (l : Nat) (J Jx : List α → World → Prop) (W : World), Below w.heap.size w W → AbidesFrom W.heap.size J → AbidesFrom W.heap.size Jx →
    (∀ pre x W1, J pre W1 → Pr x W1 → Sp (pre ++ [x]) → pre.length < N → YieldAt F (n - 1) P l (encs x) W1 fun e W' =>
      (e = .returned (.bool true) ∧ J (pre ++ [x]) W' ∧ Kp W1 W') ∨ (e = .returned (.bool false) ∧ Jx (pre ++ [x]) W')) →
    J [] W → CallsIn F n P g (#[.func (.yield l) #[] #[]] ++ lb) W fun e W' => (∃ v, e = .returned v) ∧ ((∃ xs, S xs ∧ J xs W') ∨ (∃ pre, Sp pre ∧ Jx pre W'))
/-- A loop's record, and the block for its rounds' deferred calls, as they lie between two rounds. -/
structure Mark (W : World) (b : Nat) (o : Obj) : Prop where
  rec_ : W.heap[b + 1]? = some o
  defs : W.heap[b]? = some (.deferred (some []))
theorem Mark.kept {W W' : World} {b : Nat} {o : Obj} {row : Option Nat} (h : Mark W b o) (ho : ∃ L, o = .loop L) (hg : W.grownBy W' row) (hr : ∀ r, row = some r → ∃ o : Obj, W.heap[r]? = some o ∧ o.isWalk = true) : Mark W' b o := by
  obtain ⟨L, rfl⟩ := ho
  exact ⟨(grownBy_keeps hg hr h.rec_ rfl).trans h.rec_, (grownBy_keeps hg hr h.defs rfl).trans h.defs⟩
theorem Mark.put {W : World} {b : Nat} {o : Obj} (h : Mark W b o) (o' : Obj) : Mark (W.putObj (b + 1) o') b o' :=
  ⟨World.putObj_heap_same (Array.getElem?_eq_some_iff.1 h.rec_).1, (World.putObj_heap_other (by omega)).trans h.defs⟩
theorem wpIn_rangeFunc_pr {g : Operand} {ps : Array Tmp} {assign body : Code} {Q : Exit → Act → World → Prop} {a : Act} {w : World}
    (hro : F.round = none) (h1 : 1 ≤ n) {gf : Nat} {lb : Array Value} (hg : a.eval g = .func (.func gf) #[] lb) (hFg : F.fn gf) (eg : ∀ args w, (callFunc gf args).run P w = .ok (.enter gf args) w)
    {encs : α → Array Value} {Pr : α → World → Prop} {Kp : World → World → Prop} {S Sp : List α → Prop} {N : Nat} {w0 : World} (hseq : SeqPr F (n - 1) P gf lb encs Pr Kp S Sp N w0)
    (hPr : ∀ (x : α) (W : World) (l : Nat) (o o' : Obj), Pr x W → W.heap[l]? = some o → o.isCells = false → Pr x (W.putObj l o'))
    (hKt : ∀ {A B C : World}, Kp A B → Kp B C → Kp A C) (hKb : ∀ (W : World) (l : Nat) (o o' : Obj), w.heap.size ≤ l → W.heap[l]? = some o → o.isCells = false → o.isWalk = false → Kp W (W.putObj l o')) (hb0 : Below w0.heap.size w0 w) (hps : ∀ x, (encs x).size = ps.size)
    (I : List α → World → Prop) (Ix : Code → List α → World → Prop) (hI : OwnFrom w.heap.size I) (hIx : ∀ c, OwnFrom w.heap.size (Ix c)) (h0 : I [] w) (a₁ : α → Act)
    (hassign : ∀ (l : Nat) (x : α) (W : World) (K : Act → World → Prop), K (a₁ x) W →
      assign.wpIn (F.inRound l) (n - 1 - 1) P (Exit.then K (fun _ _ _ => False)) { tmps := (ps.zip (encs x)).foldl (fun t (p, v) => t.setIfInBounds p v) a.tmps, defers := [] } W)
    (hbody : ∀ (l : Nat) (pre : List α) (x : α) (W : World), I pre W → Pr x W → Sp (pre ++ [x]) → pre.length < N → body.wpIn (F.inRound l) (n - 1 - 1) P (ownPostK Kp I Ix (pre ++ [x]) W) (a₁ x) W)
    (hdone : ∀ (D : Nat) (xs : List α) (W : World), w.heap.size ≤ D → S xs → I xs W → W.heap[D]? = some (.deferred (some [])) → Q .normal { a with defers := { target := .collected D, args := #[] } :: a.defers } W)
    (hstop : ∀ (D : Nat) (c : Code) (pre : List α) (W : World), w.heap.size ≤ D → Sp pre → Ix c pre W → W.heap[D]? = some (.deferred (some [])) → c.wpIn F n P Q { a with defers := { target := .collected D, args := #[] } :: a.defers } W) :
    (Code.rangeFunc g ps assign body).wpIn F n P Q a w := by
  refine wpIn_rangeFunc ?_
  intro fn hfn
  rw [hro]
  let rc : LoopState → Option Code → Loop := fun st pe => { state := st, pending := pe, fn, tmps := a.tmps, params := ps, assign, body, defers := w.heap.size }
  obtain ⟨W1, hW1⟩ : ∃ W1, (w.alloc (.deferred (some []))).alloc (.loop (rc .ready none)) = W1 := ⟨_, rfl⟩
  have M1 : Mark W1 w.heap.size (.loop (rc .ready none)) := by
    rw [← hW1]
    refine ⟨?_, (Below.heap_alloc _ _ _ (by simp)).trans (World.alloc_heap_new w _)⟩
    have h := World.alloc_heap_new (w.alloc (.deferred (some []))) (.loop (rc .ready none))
    rwa [World.size_alloc] at h
  have hS1 : W1.heap.size = w.heap.size + 1 + 1 := by rw [← hW1]; simp
  have hI1 : I [] W1 := by rw [← hW1]; exact hI.alloc _ (hI.alloc _ h0)
  have hB1 : Below w0.heap.size w0 W1 := by
    rw [← hW1]
    exact hb0.trans ((((Below.refl _ w).alloc (Nat.le_refl _) _).alloc (by simp) _).mono hb0.size)
  have walk : ∀ {A : World} {row : Option Nat}, (∀ r, row = some r → W1.heap.size ≤ r ∧ ∃ o : Obj, A.heap[r]? = some o ∧ o.isWalk = true) → ∀ r, row = some r → w.heap.size ≤ r ∧ ∃ o : Obj, A.heap[r]? = some o ∧ o.isCells = false :=
    fun hr r e => by
      obtain ⟨hb, o, ho, hw⟩ := hr r e
      exact ⟨by omega, o, ho, Obj.not_cells_of_walk hw⟩
  refine ⟨w.heap.size + 1, [{ target := .collected w.heap.size, args := #[] }], W1, { target := .fn (.func gf) lb, args := #[.func (.yield (w.heap.size + 1)) #[] #[]] }, W1, gf,
    #[.func (.yield (w.heap.size + 1)) #[] #[]] ++ lb, W1, ?_, ?_, ?_, ?_, fun _ => h1, ?_⟩
  · rw [← hW1]
    exact run_enterLoop_outer _ _ _ _ _
  · simp only [resolve, hg]
    simp [go_sem]
  · intro f' hf'
    simp [Target.leads] at hf'
    subst hf'
    exact hFg
  · simp [invoke, go_sem, eg]
  · refine (hseq (w.heap.size + 1) (fun pre W => I pre W ∧ Mark W w.heap.size (.loop (rc .ready none))) (fun pre W => ∃ c, Ix c pre W ∧ Mark W w.heap.size (.loop (rc .done (some c)))) W1 hB1
      (fun s A B row hs hg' hr => ⟨hI s A B row hs.1 hg' (walk (A := A) hr), hs.2.kept ⟨_, rfl⟩ hg' (fun r e => (hr r e).2)⟩)
      (fun s A B row hs hg' hr => by
        obtain ⟨c, hc, hm⟩ := hs
        exact ⟨c, hIx c s A B row hc hg' (walk (A := A) hr), hm.kept ⟨_, rfl⟩ hg' (fun r e => (hr r e).2)⟩)
      ?_ ⟨hI1, M1⟩).mono ?_
    · rintro pre x W ⟨hi, hm⟩ hpx hsp hlen
      have hy := run_yield (P := P) (args := encs x) hm.rec_ (hps x)
      refine ⟨fn, _, assign, body, hy, roundIn_of_wpIn hfn (hassign _ x W _ ⟨_, run_beginRound hm.rec_ rfl, ?_⟩)⟩
      have m2 := hm.put (.loop { rc .ready none with state := .busy })
      have k2 : Kp W (W.putObj (w.heap.size + 1) (.loop { rc .ready none with state := .busy })) := hKb _ _ _ _ (by omega) hm.rec_ rfl rfl
      refine wpIn_mono (hbody _ pre x _ (hI.putObj _ hi (by omega) hm.rec_ rfl) (hPr _ _ _ _ _ hpx hm.rec_ rfl) hsp hlen) ?_
      have fin : ∀ (jump : Option Code) (W3 : World), KeepsOthers (W.putObj (w.heap.size + 1) (.loop { rc .ready none with state := .busy })) W3 →
          (Instr.endRound (w.heap.size + 1) jump).run P W3 = .ok (.bool jump.isNone) (W3.putObj (w.heap.size + 1) (.loop (rc (if jump.isNone then .ready else .done) jump))) ∧ Mark W3 w.heap.size (.loop { rc .ready none with state := .busy }) :=
        fun jump W3 hk => ⟨run_endRound (P := P) jump (hk.same _ _ m2.rec_ rfl), hk.same _ _ m2.rec_ rfl, hk.same _ _ m2.defs rfl⟩
      rintro e a3 W3 hp
      cases e with
      | normal =>
        obtain ⟨hk, hkp, hi3⟩ := hp
        obtain ⟨hr, m3⟩ := fin none W3 hk
        exact ⟨_, _, hr, .inl ⟨rfl, ⟨hI.putObj _ hi3 (by omega) m3.rec_ rfl, m3.put _⟩, hKt (hKt k2 hkp) (hKb _ _ _ _ (by omega) m3.rec_ rfl rfl)⟩⟩
      | ret =>
        obtain ⟨hk, hi3⟩ := hp
        obtain ⟨hr, m3⟩ := fin (some .ret) W3 hk
        exact ⟨_, _, hr, .inr ⟨rfl, .ret, (hIx _).putObj _ hi3 (by omega) m3.rec_ rfl, m3.put _⟩⟩
      | exit id =>
        obtain ⟨hk, hi3⟩ := hp
        obtain ⟨hr, m3⟩ := fin (some (.exit id)) W3 hk
        exact ⟨_, _, hr, .inr ⟨rfl, .exit id, (hIx _).putObj _ hi3 (by omega) m3.rec_ rfl, m3.put _⟩⟩
      | goto t =>
        obtain ⟨hk, hi3⟩ := hp
        obtain ⟨hr, m3⟩ := fin (some (.goto t)) W3 hk
        exact ⟨_, _, hr, .inr ⟨rfl, .goto t, (hIx _).putObj _ hi3 (by omega) m3.rec_ rfl, m3.put _⟩⟩
      | panic ch => exact hp.elim
      | outgrown => exact hp.elim
    · rintro e W2 ⟨⟨v, rfl⟩, (⟨xs, hS, hi, hm⟩ | ⟨pre, hSp, c, hi, hm⟩)⟩
      · exact ⟨none, _, run_endLoop (P := P) hm.rec_ (by simp [rc]), hdone _ xs _ (Nat.le_refl _) hS (hI.putObj _ hi (by omega) hm.rec_ rfl) (hm.put _).defs⟩
      · exact ⟨some c, _, run_endLoop (P := P) hm.rec_ (by simp [rc]), hstop _ c pre _ (Nat.le_refl _) hSp ((hIx c).putObj _ hi (by omega) hm.rec_ rfl) (hm.put _).defs⟩
end Go.Proofs.Ytalpemoodollpaa.P
/- damperref04.Take: its payload lies in the bytes that it was given. -/
namespace Go.Proofs.Ytalpemoodollpaa.P
open Go.RowKit Go.Proofs.YtalpemoodollpaaW.PrintWords Go.Proofs.YtalpemoodollpaaW.PrintLast Go.Proofs.YtalpemoodollpaaW.PrintMore
set_option linter.unusedVariables false
set_option linter.unusedSimpArgs false
set_option maxRecDepth 100000 in
set_option maxHeartbeats 2000000 in
theorem refTakeIn_calls (A0 : Option Addr) (c0 : Nat) (l0 : List Int) (w : World) (hr0 : Kd.C (Kd.int .u8) w A0 l0.length l0) (hc0 : l0.length ≤ c0) (hb : Byt l0) (hl : l0.length ≤ 140737488355328) :
    Calls Try.prog 47 #[.slice A0 l0.length c0] w fun e w' => ∃ A c, e = .returned (.tuple #[.slice A (takeF l0).1.length c, .int .i64 (takeF l0).2.1, .int .i64 (takeF l0).2.2]) ∧
      (∀ w0, Kd.C (Kd.int .u8) w0 A0 l0.length l0 → Kd.C (Kd.int .u8) w0 A (takeF l0).1.length (takeF l0).1) ∧ (takeF l0).1.length ≤ c ∧ Below w.heap.size w w' := by
  have HR := Aside0.mk hr0
  have HL := Aside0.mk hl
  have HC0 := Aside0.mk hc0
  have HU := Aside0.mk (refReadUint l0 2 hb 12 (by omega))
  clear hr0 hl hc0
  generalize hF : takeF l0 = F
  have HF := Aside0.mk hF
  clear hF
  go_enter Try.func47, Try.ntmps47
  go_wp2_with fail
  have hT : rdUint l0 2 = if l0.length < 2 then (0, 0, [], 0, 3) else (beNum (l0.take 2), 0, [], 2, 0) := by
    unfold rdUint
    rw [if_neg (by decide)]
    by_cases h : l0.length < 2
    · rw [if_pos (by omega), if_pos h]
    · rw [if_neg (by omega), if_neg h]; rfl
  rw [hT] at HU
  by_cases h2 : l0.length < 2
  · rw [if_pos h2] at HU
    refine (damperref03_ReadUint.calls 12 A0 c0 l0 2 _ _ _ _ _ w HR.out HC0.out HU.out).mono ?_
    rintro e w1 ⟨v2, rfl, hR, hbl⟩
    obtain ⟨A2, c2, rfl⟩ := Kd.R_slice hR
    have HB := Aside0.mk hbl
    clear hR hbl HU hT
    have H2 := Aside0.mk h2
    clear h2
    go_wp2
    go_ret3
    have hb0 := below_alloc HB.out (.cells #[.int .u64 0, .int .i64 0, .slice A2 0 c2, .int .i64 0, .int .i64 3] 81)
    have e : takeF l0 = ([], 0, 3) := by unfold takeF; rw [if_pos H2.out]
    obtain rfl : F = ([], 0, 3) := HF.out.symm.trans e
    exact ⟨none, 0, rfl, fun _ _ => Kd.C_nil _ _, Nat.le_refl _, hb0⟩
  · rw [if_neg h2] at HU
    refine (damperref03_ReadUint.calls 12 A0 c0 l0 2 _ _ _ _ _ w HR.out HC0.out HU.out).mono ?_
    rintro e w1 ⟨v2, rfl, hR, hbl⟩
    obtain ⟨A2, c2, rfl⟩ := Kd.R_slice hR
    have hrg := beNum_range (l0.take 2) (hb.take 2)
    have hrl : (l0.take 2).length = 2 := by rw [List.length_take]; omega
    rw [hrl] at hrg
    have hn0 := hrg.1
    have hn1 : beNum (l0.take 2) < 65536 := hrg.2
    have e : takeF l0 = if 64 < beNum (l0.take 2) then ([], 0, 4) else if (l0.length : Int) < 2 + beNum (l0.take 2) then ([], 0, 3) else ((l0.drop 2).take (beNum (l0.take 2)).toNat, 2 + beNum (l0.take 2), 0) := by
      rw [takeF, if_neg h2]
    have HE : Aside0 ((if 64 < beNum (l0.take 2) then (([] : List Int), (0 : Int), (4 : Int)) else if (l0.length : Int) < 2 + beNum (l0.take 2) then ([], 0, 3) else ((l0.drop 2).take (beNum (l0.take 2)).toNat, 2 + beNum (l0.take 2), 0)) = F) := ⟨e.symm.trans HF.out⟩
    have HRN := Aside0.mk (HR.out)
    have HB := Aside0.mk (Kd.C_below HR.out hbl)
    have HBL := Aside0.mk hbl
    clear hR hbl HU hT e hrg hrl hb HR HF
    obtain ⟨m, hm⟩ := Int.eq_ofNat_of_zero_le hn0
    rw [hm] at hn1 HE ⊢
    clear hn0 hm
    have H2 := Aside0.mk h2
    have HM := Aside0.mk hn1
    clear h2
    by_cases h64 : 64 < m
    · clear hn1
      go_wp2
      go_ret3
      obtain rfl : F = ([], 0, 4) := by have h := HE.out; rw [if_pos (by omega)] at h; exact h.symm
      exact ⟨none, 0, rfl, fun _ _ => Kd.C_nil _ _, Nat.le_refl _, below_alloc HBL.out _⟩
    · have hm64 : m ≤ 64 := by omega
      have H64 := Aside0.mk h64
      clear hn1 h64
      by_cases hls : (l0.length : Int) < 2 + (m : Int)
      · go_wp2
        go_ret3
        obtain rfl : F = ([], 0, 3) := by have h := HE.out; rw [if_neg (by have := H64.out; omega), if_pos hls] at h; exact h.symm
        exact ⟨none, 0, rfl, fun _ _ => Kd.C_nil _ _, Nat.le_refl _, below_alloc HBL.out _⟩
      · have hc0 := HC0.out
        have hfe : F = ((l0.drop 2).take m, 2 + (m : Int), 0) := by have h := HE.out; rw [if_neg (by have := H64.out; omega), if_neg hls] at h; exact h.symm
        have hlen : ((l0.drop 2).take m).length = m := by rw [List.length_take, List.length_drop]; omega
        have HLEN := Aside0.mk hlen
        have hC : ∀ w0, Kd.C (Kd.int .u8) w0 A0 l0.length l0 → Kd.C (Kd.int .u8) w0 (if c0 = 2 then A0 else A0.map (·.add (2 * 1))) ((l0.drop 2).take m).length ((l0.drop 2).take m) := fun w0 h0 => by
          have hC := Kd.C_mid (lo := 2) (hi := 2 + m) (c := c0) h0 (by omega) (by omega) (by omega)
          rw [show (l0.take (2 + m)).drop 2 = (l0.drop 2).take m by rw [List.drop_take]; congr 1; omega] at hC
          exact hC
        have hbb := below_alloc HBL.out (.cells #[.int .u64 (m : Int), .int .i64 0, .slice A2 0 c2, .int .i64 2, .int .i64 0] 81)
        have HFE := Aside0.mk hfe
        clear HE HBL HB HRN hfe
        have HCC := Aside0.mk hC
        have HBB := Aside0.mk hbb
        clear hC hbb hlen
        by_cases hc2 : c0 = 2
        · have HC2 := Aside0.mk hc2
          obtain rfl : m = 0 := by omega
          subst hc2
          go_wp2
          go_ret3
          have h := HCC.out
          simp only [reduceIte, if_true] at h
          obtain rfl := HFE.out
          exact ⟨A0, 0, rfl, h, by simp, HBB.out⟩
        · go_wp2
          go_ret3
          have h := HCC.out
          simp only [if_neg hc2] at h
          obtain rfl := HFE.out
          refine ⟨_, c0 - 2, ?_, h, by rw [HLEN.out]; omega, HBB.out⟩
          rw [HLEN.out, show 2 + m - 2 = m by omega]
          rfl
end Go.Proofs.Ytalpemoodollpaa.P
/- Frames of bytes, plain. -/
namespace Go.Proofs.Ytalpemoodollpaa.P
open Go.RowKit Go.Proofs.YtalpemoodollpaaW.PrintWords Go.Proofs.YtalpemoodollpaaW.PrintLast Go.Proofs.YtalpemoodollpaaW.PrintMore
set_option linter.unusedVariables false
set_option linter.unusedSimpArgs false
theorem beNum_nat (l : List Int) (hb : Byt l) : ∃ m : Nat, beNum l = (m : Int) := by
  obtain ⟨m, hm⟩ := Int.eq_ofNat_of_zero_le (beNum_range l hb).1
  exact ⟨m, hm⟩
/-- A frame that is there: how many bytes it has. -/
theorem takeF_ok {l : List Int} (hb : Byt l) (h : (takeF l).2.2 = 0) : ∃ m : Nat, m ≤ 64 ∧ 2 + m ≤ l.length ∧ (takeF l).1 = (l.drop 2).take m ∧ (takeF l).2.1 = ((2 + m : Nat) : Int) ∧ beNum (l.take 2) = (m : Int) := by
  obtain ⟨m, hm⟩ := beNum_nat (l.take 2) (hb.take 2)
  unfold takeF at h ⊢
  rw [hm] at h ⊢
  by_cases h1 : l.length < 2
  · rw [if_pos h1] at h; exact absurd (show (3 : Int) = 0 from h) (by decide)
  · rw [if_neg h1] at h ⊢
    by_cases h2 : (64 : Int) < (m : Int)
    · rw [if_pos h2] at h; exact absurd (show (4 : Int) = 0 from h) (by decide)
    · rw [if_neg h2] at h ⊢
      by_cases h3 : (l.length : Int) < 2 + (m : Int)
      · rw [if_pos h3] at h; exact absurd (show (3 : Int) = 0 from h) (by decide)
      · rw [if_neg h3]
        refine ⟨m, by omega, by omega, by rw [Int.toNat_natCast], ?_, rfl⟩
        show 2 + (m : Int) = _
        omega
theorem takeF_fault (l : List Int) : (takeF l).2.2 = 0 ∨ (takeF l).2.2 = 3 ∨ (takeF l).2.2 = 4 := by
  unfold takeF
  split
  · exact .inr (.inl rfl)
  · split
    · exact .inr (.inr rfl)
    · split
      · exact .inr (.inl rfl)
      · exact .inl rfl
theorem takeF_nil {l : List Int} (h : (takeF l).2.2 ≠ 0) : (takeF l).1 = [] ∧ (takeF l).2.1 = 0 := by
  unfold takeF at h ⊢
  split
  · exact ⟨rfl, rfl⟩
  · rename_i h1
    rw [if_neg h1] at h
    split
    · exact ⟨rfl, rfl⟩
    · rename_i h2
      rw [if_neg h2] at h
      split
      · exact ⟨rfl, rfl⟩
      · rename_i h3
        rw [if_neg h3] at h
        exact absurd rfl h
theorem takeF_app {l : List Int} (hb : Byt l) (x : List Int) (h : (takeF l).2.2 = 0) : takeF (l ++ x) = takeF l := by
  obtain ⟨m, h64, hlen, e1, e2, e3⟩ := takeF_ok hb h
  have ht : (l ++ x).take 2 = l.take 2 := List.take_append_of_le_length (by omega)
  have hL : (l ++ x).length = l.length + x.length := List.length_append
  have hp : takeF l = ((l.drop 2).take m, ((2 + m : Nat) : Int), 0) := Prod.ext e1 (Prod.ext e2 h)
  rw [hp]
  unfold takeF
  rw [ht, e3, if_neg (by omega), if_neg (by omega), if_neg (by omega), Int.toNat_natCast, List.drop_append_of_le_length (by omega), List.take_append_of_le_length (by rw [List.length_drop]; omega)]
  have : (2 : Int) + (m : Int) = ((2 + m : Nat) : Int) := by omega
  rw [this]
theorem takeF_app4 {l : List Int} (hb : Byt l) (x : List Int) (h : (takeF l).2.2 = 4) : takeF (l ++ x) = takeF l := by
  unfold takeF at h ⊢
  have hL : (l ++ x).length = l.length + x.length := List.length_append
  by_cases h1 : l.length < 2
  · rw [if_pos h1] at h; exact absurd (show (3 : Int) = 4 from h) (by decide)
  · have ht : (l ++ x).take 2 = l.take 2 := List.take_append_of_le_length (by omega)
    rw [if_neg h1] at h ⊢
    rw [if_neg (show ¬ (l ++ x).length < 2 by omega), ht]
    by_cases h2 : 64 < beNum (l.take 2)
    · rw [if_pos h2, if_pos h2]
    · rw [if_neg h2] at h
      split at h
      · exact absurd (show (3 : Int) = 4 from h) (by decide)
      · exact absurd (show (0 : Int) = 4 from h) (by decide)
/-- All frames with which bytes begin: their payloads, where they end, the fault there. -/
def frames (l : List Int) : List (List Int) × Nat × Int :=
  if h : (takeF l).2.2 = 0 ∧ (l.drop (takeF l).2.1.toNat).length < l.length then
    ((takeF l).1 :: (frames (l.drop (takeF l).2.1.toNat)).1, (takeF l).2.1.toNat + (frames (l.drop (takeF l).2.1.toNat)).2.1, (frames (l.drop (takeF l).2.1.toNat)).2.2)
  else ([], 0, if l = [] then 0 else (takeF l).2.2)
termination_by l.length
decreasing_by all_goals exact h.2
/-- The first frame of bytes, taken. -/
structure FT (l : List Int) (p : List Int) (n : Nat) : Prop where
  tk : takeF l = (p, (n : Int), 0)
  two : 2 ≤ n
  len : n ≤ l.length
  pl : p.length ≤ 64
  pn : n = 2 + p.length
  pe : p = (l.drop 2).take p.length
theorem FT.mk' {l : List Int} (hb : Byt l) (h : (takeF l).2.2 = 0) : ∃ p n, FT l p n := by
  obtain ⟨m, h64, hlen, e1, e2, e3⟩ := takeF_ok hb h
  have hl : ((l.drop 2).take m).length = m := by rw [List.length_take, List.length_drop]; omega
  exact ⟨(l.drop 2).take m, 2 + m, Prod.ext e1 (Prod.ext e2 h), by omega, hlen, by omega, by omega, by rw [hl]⟩
theorem FT.frames {l p : List Int} {n : Nat} (h : FT l p n) : frames l = (p :: (frames (l.drop n)).1, n + (frames (l.drop n)).2.1, (frames (l.drop n)).2.2) := by
  rw [P.frames, h.tk]
  dsimp only
  rw [Int.toNat_natCast, dif_pos ⟨rfl, by have := h.len; have := h.two; rw [List.length_drop]; omega⟩]
theorem frames_no {l : List Int} (h : (takeF l).2.2 ≠ 0) : frames l = ([], 0, if l = [] then 0 else (takeF l).2.2) := by
  rw [frames, dif_neg (fun x => h x.1)]
theorem frames_nil : frames [] = ([], 0, 0) := by rw [frames_no (by decide), if_pos rfl]
theorem frames_fault (k : Nat) : ∀ l : List Int, l.length ≤ k → Byt l → ((frames l).2.2 = 0 ∨ (frames l).2.2 = 3 ∨ (frames l).2.2 = 4) ∧ (frames l).2.1 ≤ l.length := by
  induction k with
  | zero =>
    intro l hl hb
    have : l = [] := List.length_eq_zero_iff.1 (by omega)
    subst this
    rw [frames_nil]
    exact ⟨.inl rfl, Nat.le_refl _⟩
  | succ k ih =>
    intro l hl hb
    by_cases h : (takeF l).2.2 = 0
    · obtain ⟨p, n, hf⟩ := FT.mk' hb h
      have h1 := hf.len
      have h2 := hf.two
      have := ih (l.drop n) (by rw [List.length_drop]; omega) (hb.drop n)
      rw [hf.frames]
      rw [List.length_drop] at this
      exact ⟨this.1, by show n + _ ≤ _; omega⟩
    · rw [frames_no h]
      dsimp only
      refine ⟨?_, Nat.zero_le _⟩
      split
      · exact .inl rfl
      · rcases takeF_fault l with h2 | h2 | h2
        · exact absurd h2 h
        · exact .inr (.inl h2)
        · exact .inr (.inr h2)
theorem frames_end (l : List Int) (hb : Byt l) : (frames l).2.1 ≤ l.length := (frames_fault l.length l (Nat.le_refl _) hb).2
theorem frames_count (k : Nat) : ∀ l : List Int, l.length ≤ k → Byt l → 2 * (frames l).1.length ≤ (frames l).2.1 := by
  induction k with
  | zero =>
    intro l hl hb
    have : l = [] := List.length_eq_zero_iff.1 (by omega)
    subst this
    rw [frames_nil]
    exact Nat.le_refl _
  | succ k ih =>
    intro l hl hb
    by_cases h : (takeF l).2.2 = 0
    · obtain ⟨p, n, hf⟩ := FT.mk' hb h
      have h1 := hf.len
      have h2 := hf.two
      have := ih (l.drop n) (by rw [List.length_drop]; omega) (hb.drop n)
      rw [hf.frames]
      simp only [List.length_cons]
      omega
    · rw [frames_no h]
      exact Nat.le_refl _
/-- More bytes behind: what was told stays. -/
theorem frames_app (x : List Int) (k : Nat) : ∀ a : List Int, a.length ≤ k → Byt a → (frames a).2.2 ≠ 4 →
    frames (a ++ x) = ((frames a).1 ++ (frames (a.drop (frames a).2.1 ++ x)).1, (frames a).2.1 + (frames (a.drop (frames a).2.1 ++ x)).2.1, (frames (a.drop (frames a).2.1 ++ x)).2.2) := by
  induction k with
  | zero =>
    intro a ha hb h4
    have : a = [] := List.length_eq_zero_iff.1 (by omega)
    subst this
    rw [frames_nil]
    simp
  | succ k ih =>
    intro a ha hb h4
    by_cases h : (takeF a).2.2 = 0
    · obtain ⟨p, n, hf⟩ := FT.mk' hb h
      have h1 := hf.len
      have h2 := hf.two
      have hfx : FT (a ++ x) p n := ⟨by rw [takeF_app hb x h]; exact hf.tk, h2, by rw [List.length_append]; omega, hf.pl, hf.pn, by
        have := hf.pn
        rw [List.drop_append_of_le_length (by omega), List.take_append_of_le_length (by rw [List.length_drop]; omega)]
        exact hf.pe⟩
      have e := ih (a.drop n) (by rw [List.length_drop]; omega) (hb.drop n) (by rw [hf.frames] at h4; exact h4)
      rw [hfx.frames, hf.frames, List.drop_append_of_le_length h1, e]
      dsimp only
      rw [List.drop_drop]
      simp [Nat.add_assoc]
    · rw [frames_no h]
      simp
theorem frames_app4 (x : List Int) (k : Nat) : ∀ a : List Int, a.length ≤ k → Byt a → (frames a).2.2 = 4 → frames (a ++ x) = frames a := by
  induction k with
  | zero =>
    intro a ha hb h4
    have : a = [] := List.length_eq_zero_iff.1 (by omega)
    subst this
    rw [frames_nil] at h4
    exact absurd (show (0 : Int) = 4 from h4) (by decide)
  | succ k ih =>
    intro a ha hb h4
    by_cases h : (takeF a).2.2 = 0
    · obtain ⟨p, n, hf⟩ := FT.mk' hb h
      have h1 := hf.len
      have h2 := hf.two
      have hfx : FT (a ++ x) p n := ⟨by rw [takeF_app hb x h]; exact hf.tk, h2, by rw [List.length_append]; omega, hf.pl, hf.pn, by
        have := hf.pn
        rw [List.drop_append_of_le_length (by omega), List.take_append_of_le_length (by rw [List.length_drop]; omega)]
        exact hf.pe⟩
      have e := ih (a.drop n) (by rw [List.length_drop]; omega) (hb.drop n) (by rw [hf.frames] at h4; exact h4)
      rw [hfx.frames, hf.frames, List.drop_append_of_le_length h1, e]
    · have h4' := h4
      rw [frames_no h] at h4'
      dsimp only at h4'
      by_cases ha0 : a = []
      · rw [if_pos ha0] at h4'; exact absurd h4' (by decide)
      · rw [if_neg ha0] at h4'
        have e := takeF_app4 hb x h4'
        have hx : a ++ x ≠ [] := fun hx => ha0 (List.append_eq_nil_iff.1 hx).1
        rw [frames_no h, frames_no (by rw [e]; exact h), if_neg ha0, if_neg hx, e]
/-- Frames that are put come out again. -/
def putF (p : List Int) : List Int := uintForm p.length 2 ++ p
def putAll (l : List (List Int)) : List Int := l.flatMap putF
theorem putF_byt {p : List Int} (h : Byt p) : Byt (putF p) := (uintForm_byt _ _).append h
theorem putF_length (p : List Int) : (putF p).length = 2 + p.length := by simp [putF, uintForm_length]
theorem putF_take (p rest : List Int) (h : p.length ≤ 64) : FT (putF p ++ rest) p (2 + p.length) := by
  have e1 : (putF p ++ rest).take 2 = uintForm p.length 2 := by
    rw [putF, List.append_assoc]
    exact List.take_left' (uintForm_length _ _)
  have e2 : (putF p ++ rest).drop 2 = p ++ rest := by
    rw [putF, List.append_assoc]
    exact List.drop_left' (uintForm_length _ _)
  have e3 : beNum (uintForm p.length 2) = (p.length : Int) := by
    rw [beNum_uintForm]
    have : p.length % 256 ^ 2 = p.length := Nat.mod_eq_of_lt (by omega)
    rw [this]
  have hl : (putF p ++ rest).length = 2 + p.length + rest.length := by rw [List.length_append, putF_length]
  refine ⟨?_, by omega, by omega, h, rfl, by rw [e2]; simp⟩
  unfold takeF
  rw [e1, e2, e3, if_neg (by omega), if_neg (by omega), if_neg (by omega), Int.toNat_natCast]
  have : (2 : Int) + (p.length : Int) = ((2 + p.length : Nat) : Int) := by omega
  rw [this]
  simp
theorem frames_put (l : List (List Int)) (h : ∀ p ∈ l, p.length ≤ 64) : frames (putAll l) = (l, (putAll l).length, 0) := by
  induction l with
  | nil => exact frames_nil
  | cons p l ih =>
    have hp := putF_take p (putAll l) (h p List.mem_cons_self)
    have e : putAll (p :: l) = putF p ++ putAll l := rfl
    have hd : (putF p ++ putAll l).drop (2 + p.length) = putAll l := List.drop_left' (putF_length p)
    rw [e, hp.frames, hd, ih (fun q hq => h q (List.mem_cons_of_mem _ hq))]
    simp [putF_length]
end Go.Proofs.Ytalpemoodollpaa.P
/- damperref04.All: all frames of bytes. -/
namespace Go.Proofs.Ytalpemoodollpaa.P
open Go.RowKit Go.Proofs.YtalpemoodollpaaW.PrintWords Go.Proofs.YtalpemoodollpaaW.PrintLast Go.Proofs.YtalpemoodollpaaW.PrintMore
set_option linter.unusedVariables false
set_option linter.unusedSimpArgs false
/-- Where frames of these payloads begin, the first at k. -/
def placesOf : Int → List (List Int) → List Int
  | _, [] => []
  | k, p :: ps => k :: placesOf (k + 2 + p.length) ps
def total : List (List Int) → Nat
  | [] => 0
  | p :: ps => 2 + p.length + total ps
theorem placesOf_length (ps : List (List Int)) : ∀ k, (placesOf k ps).length = ps.length := by
  induction ps with
  | nil => intro k; rfl
  | cons p ps ih => intro k; simp [placesOf, ih]
theorem placesOf_snoc (ps : List (List Int)) (p : List Int) : ∀ k, placesOf k (ps ++ [p]) = placesOf k ps ++ [k + (total ps : Int)] := by
  induction ps with
  | nil => intro k; simp [placesOf, total]
  | cons q ps ih =>
    intro k
    have e : k + 2 + (q.length : Int) + (total ps : Int) = k + ((2 + q.length + total ps : Nat) : Int) := by omega
    simp only [placesOf, List.cons_append, ih, total, e]
theorem total_snoc (ps : List (List Int)) (p : List Int) : total (ps ++ [p]) = total ps + (2 + p.length) := by
  induction ps with
  | nil => simp [total]
  | cons q ps ih => simp only [total, List.cons_append, ih]; omega
theorem total_ge (ps : List (List Int)) : 2 * ps.length ≤ total ps := by
  induction ps with
  | nil => simp [total]
  | cons q ps ih => simp only [total, List.length_cons]; omega
/-- Another row, of another type, has been written. -/
theorem R_grown_t {α : Type} {d : Kd α} {e base : Nat} {ok : Nat → Prop} {w w1 : World} {v : Value} {xs : List α} (h : d.R e w base ok v xs) {b' e' s' n' : Nat} {v' : Value} {ys : List Value} (ho : w.ownsRow b' e' s' v' n' ys) (ht : ∀ q, q ∈ e :: d.E → q ≠ e') (hg : w.grownBy w1 v'.ownBlock) : d.R e w1 base ok v xs := by
  refine Kd.R_mono (Kd.R_grown (Kd.R_bound h) hg ?_) (fun _ hk => hk.1)
  rintro k ⟨_, _, _, q, hq, cells, hc⟩ e2
  obtain ⟨cells', hc'⟩ := own_typed ho k e2.symm
  rw [hc] at hc'
  injection hc' with hc'
  injection hc' with _ hc'
  exact ht q hq hc'
/-- Bytes that are being read. -/
structure RB (w0 : World) (A : Option Addr) (l : List Int) (c : Nat) : Prop where
  hC : Kd.C (Kd.int .u8) w0 A l.length l
  hc : l.length ≤ c
  hb : Byt l
  hl : l.length ≤ 140737488355328
theorem RB.cut {w0 : World} {A : Option Addr} {l : List Int} {c : Nat} (h : RB w0 A l c) (m : Nat) (hm : m ≤ l.length) :
    ∃ A', (∀ W : World, (Instr.slice 30 (.slice A l.length c) (some (.int .i64 (m : Int))) none none).run Try.prog W = .ok (.slice A' (l.drop m).length (c - m)) W) ∧ RB w0 A' (l.drop m) (c - m) ∧
      ∀ w1, Kd.C (Kd.int .u8) w1 A l.length l → Kd.C (Kd.int .u8) w1 A' (l.drop m).length (l.drop m) := by
  obtain ⟨A', hcut, _, hR⟩ := cut_ A l.length c m hm
  have key : ∀ w1, Kd.C (Kd.int .u8) w1 A l.length l → Kd.C (Kd.int .u8) w1 A' (l.drop m).length (l.drop m) := fun w1 h1 => by
    have := hR w1 l h.hc h1
    rw [List.length_drop]
    exact this
  exact ⟨A', fun W => by rw [List.length_drop]; exact hcut W, ⟨key w0 h.hC, by have := h.hc; rw [List.length_drop]; omega, h.hb.drop m, by have := h.hl; rw [List.length_drop]; omega⟩, key⟩
/-- A slice of the bytes that lie at A0: read, wherever these are. -/
def kIn (A0 : Option Addr) (l : List Int) : Kd (List Int) where
  sz := 1
  E := []
  K := fun _ x cs => ∃ X m, cs = [.slice X x.length m] ∧ x.length ≤ m ∧ ∀ w0, Kd.C (Kd.int .u8) w0 A0 l.length l → Kd.C (Kd.int .u8) w0 X x.length x
  M := fun _ _ _ x cs => ∃ X m, cs = [.slice X x.length m] ∧ x.length ≤ m ∧ ∀ w0, Kd.C (Kd.int .u8) w0 A0 l.length l → Kd.C (Kd.int .u8) w0 X x.length x
  K_len := by
    rintro w x cs ⟨X, m, rfl, _⟩
    rfl
  K_one := by
    rintro w x cs ⟨X, m, rfl, _⟩ u hu
    rw [List.mem_singleton.1 hu]
    rfl
  K_below := fun _ h => h
  K_of_M := fun h => h
  M_mono := fun _ h => h
  M_bound := fun h => h
  M_move := fun _ h => h
  M_lower := fun _ h => h
/-- A row of such slices, read. -/
theorem kIn_C {A0 : Option Addr} {l : List Int} {w : World} {A : Option Addr} {n : Nat} {xs : List (List Int)} (h : (kIn A0 l).C w A n xs) (hl : Kd.C (Kd.int .u8) w A0 l.length l) : Kd.C (Kd.slice 5 (Kd.int .u8)) w A n xs :=
  ReadsRow.imp_ h (Below.refl _ _) (fun x cs ⟨X, m, e, hq, hC⟩ => ⟨X, m, e, hq, hC w hl⟩)
theorem kIn_ne (A : Option Addr) (l : List Int) : ∀ q, q ∈ 30 :: (kIn A l).E → q ≠ 3 := by
  intro q hq
  have : q = 30 := by simpa [kIn] using hq
  omega
theorem kint_ne : ∀ q, q ∈ 3 :: (Kd.int .i64).E → q ≠ 30 := by
  intro q hq
  have : q = 3 := by simpa [Kd.int, Kd.scalar] using hq
  omega
def AllPost (w : World) (A0 : Option Addr) (l : List Int) (F : List (List Int) × Nat × Int) (e : Ending) (w' : World) : Prop :=
  ∃ v1 v2 : Value, e = .returned (.tuple #[v1, v2, .int .i64 (F.2.1 : Int), .int .i64 F.2.2]) ∧
    Kd.R (Kd.int .i64) 3 w' w.heap.size (fun _ => True) v1 (placesOf 0 F.1) ∧ Kd.R (kIn A0 l) 30 w' w.heap.size (fun _ => True) v2 F.1 ∧ Below w.heap.size w w'
theorem info3_ : (Try.prog.info? 3).map (fun i => (i.zero, i.size, i.bytes)) = some (some (.int .i64 0), 1, 8) := by kernel_rfl
theorem info30_ : (Try.prog.info? 30).map (fun i => (i.zero, i.size, i.bytes)) = some (some (.slice none 0 0), 1, 24) := by kernel_rfl
set_option maxRecDepth 100000 in
set_option maxHeartbeats 2000000 in
theorem refAll_calls (A0 : Option Addr) (c0 : Nat) (l : List Int) (w : World) (hr0 : Kd.C (Kd.int .u8) w A0 l.length l) (hc0 : l.length ≤ c0) (hl : l.length ≤ 1000000) (hb : Byt l) :
    Calls Try.prog 53 #[.slice A0 l.length c0] w (AllPost w A0 l (frames l)) := by
  have HRB := Aside0.mk (RB.mk hr0 hc0 hb (by omega))
  obtain ⟨N, hN⟩ : ∃ N, l.length = N := ⟨_, rfl⟩
  rw [hN] at hc0 hl ⊢
  have HN := Aside0.mk hN
  generalize hG : frames l = G
  have HG := Aside0.mk hG
  have hl2 : (N : Int) ≤ 1000000 := by omega
  clear hr0 hb hG hN
  go_enter Try.func53, Try.ntmps53
  go_wp2
  go_loopw [6, 7, 8] (fun u6 u7 u8 wr => ∃ (i : Nat) (acc : List (List Int)), u8 = .int .i64 (i : Int) ∧ i ≤ N ∧ acc.length ≤ i ∧ Aside0 (i = total acc) ∧ Aside0 (G = (acc ++ (frames (l.drop i)).1, i + (frames (l.drop i)).2.1, (frames (l.drop i)).2.2)) ∧ Aside0 (Kd.R (Kd.int .i64) 3 wr w.heap.size (fun _ => True) u6 (placesOf 0 acc)) ∧ Aside0 (Kd.R (kIn A0 l) 30 wr w.heap.size (fun _ => True) u7 acc) ∧ Aside0 (Below w.heap.size w wr)) (fun _ _ u8 _ => (N - (intOf u8).toNat))
  case atStart => exact ⟨0, [], rfl, by omega, by simp, ⟨rfl⟩, ⟨by rw [← HG.out]; simp⟩, ⟨Kd.R_nil _ _ _ _ _⟩, ⟨Kd.R_nil _ _ _ _ _⟩, ⟨Below.refl _ _⟩⟩
  case round =>
    obtain ⟨i, acc, rfl, hi, hac, HI, HS, H6, H7, HB⟩ := hrel
    by_cases hlt : i < N
    · obtain ⟨A', hcut, hrb, hall⟩ := HRB.out.cut i (by rw [HN.out]; omega)
      have HRC : Aside0 (∀ w0, Kd.C (Kd.int .u8) w0 A0 l.length l → Kd.C (Kd.int .u8) w0 A' (l.drop i).length (l.drop i)) := ⟨hall⟩
      rw [HN.out] at hcut
      have TK := Aside0.mk (refTakeIn_calls A' (c0 - i) (l.drop i) wr (Kd.C_below hrb.hC HB.out) hrb.hc hrb.hb hrb.hl)
      have FTK := Aside0.mk (fun h => FT.mk' (l := l.drop i) hrb.hb h)
      have FNO := Aside0.mk (fun h => frames_no (l := l.drop i) h)
      have TNO := Aside0.mk (fun h => takeF_nil (l := l.drop i) h)
      have HDL := Aside0.mk (show (l.drop i).length = N - i by rw [List.length_drop, HN.out])
      clear hrb hall
      generalize hT : takeF (l.drop i) = T at *
      have HT := Aside0.mk hT
      clear hT
      obtain ⟨p, n, f⟩ := T
      dsimp only at *
      generalize hdl : (l.drop i).length = DL at *
      clear hdl
      go_wp2_with fail
      refine TK.out.mono ?_
      rintro e w4 ⟨X, m, rfl, hX, hq, hb4⟩
      have B4 := Aside0.mk (below_then HB.out HB.out.size hb4)
      have H64 := Aside0.mk (Kd.R_below H6.out hb4)
      have H74 := Aside0.mk (Kd.R_below H7.out hb4)
      have HX := Aside0.mk hX
      have HQ := Aside0.mk hq
      clear hX hq hb4 TK H6 H7 HB
      by_cases hf : f = 0
      · subst hf
        obtain ⟨p', n', hft⟩ := FTK.out rfl
        have htk := hft.tk
        rw [HT.out] at htk
        injection htk with ep en
        injection en with en _
        subst ep en
        have hn2 := hft.two
        have hnl := hft.len
        have hpn := hft.pn
        have hnN : i + n' ≤ N := by have := HDL.out; rw [List.length_drop, HN.out] at hnl; omega
        have HS2 : Aside0 (G = ((acc ++ [p]) ++ (frames (l.drop (i + n'))).1, (i + n') + (frames (l.drop (i + n'))).2.1, (frames (l.drop (i + n'))).2.2)) := ⟨by
          rw [HS.out, hft.frames, List.drop_drop]
          simp [Nat.add_assoc]⟩
        have HI2 : Aside0 (i + n' = total (acc ++ [p])) := ⟨by rw [total_snoc, ← HI.out]; omega⟩
        have HX2 : Aside0 (∀ w0, Kd.C (Kd.int .u8) w0 A0 l.length l → Kd.C (Kd.int .u8) w0 X p.length p) := ⟨fun w0 h0 => HX.out w0 (HRC.out w0 h0)⟩
        obtain ⟨in6, ho6⟩ := Kd.R_own H64.out
        have HO6 := Aside0.mk ho6
        have HPL : Aside0 (placesOf 0 acc ++ [(i : Int)] = placesOf 0 (acc ++ [p])) := ⟨by rw [placesOf_snoc, ← HI.out]; simp⟩
        clear ho6 hft HS HI FTK FNO TNO HT HRC hpn hnl
        have hnN2 : (i : Int) + (n' : Int) ≤ (N : Int) := by omega
        have hpll : Aside0 ((placesOf 0 acc).length ≤ 1000000) := ⟨by rw [placesOf_length]; omega⟩
        go_upto_region 9 with (at_builtin; go_must (refine Kd.R_append (Kd.int .i64) (w0 := w) w.heap.size rfl (.tmp 30) (.tmp 32) 61 3 _ 8 rfl Try.underlying61 info3_ (by rfl) (show 0 < 1 from by decide) (by decide) u6 (placesOf 0 acc) (i : Int) [.int .i64 (i : Int)] (fun _ => True) (fun _ => False) rfl rfl rfl (fun _ h => False.elim h) (fun _ _ => trivial) H64.out B4.out B4.out.size (by have := hpll.out; omega) ?_); intro v1 w5 hR1 hB1 hg1 hat1; rw [HPL.out] at hR1; have H65 := Aside0.mk hR1; have B5 := Aside0.mk hB1; have H75 := Aside0.mk (R_grown_t H74.out HO6.out (kIn_ne A0 l) hg1); clear hR1 hB1 hg1 hat1)
        go_wp2_with (at_builtin; go_must (refine Kd.R_append (kIn A0 l) (w0 := w) w.heap.size rfl (.tmp 34) (.tmp 36) 62 30 _ 24 rfl Try.underlying62 info30_ (by rfl) (show 0 < 1 from by decide) (by decide) u7 acc p [.slice X p.length m] (fun _ => True) (fun _ => False) rfl rfl ⟨X, m, rfl, HQ.out, HX2.out⟩ (fun _ h => False.elim h) (fun _ _ => trivial) H75.out B5.out B5.out.size (by omega) ?_); intro v2 w6 hR1 hB1 hg1 hat1; have H76 := Aside0.mk hR1; have B6 := Aside0.mk hB1; obtain ⟨in7, ho7⟩ := Kd.R_own H75.out; have H66 := Aside0.mk (R_grown_t H65.out ho7 kint_ne hg1); clear hR1 hB1 hg1 hat1 ho7)
        go_roundw
        case rel => exact ⟨i + n', acc ++ [p], by go_num, by omega, by simp; omega, HI2, HS2, H66, H76, B6⟩
        case measure => simp [intOf]; omega
      · have hff : (f != 0) = true := by simpa using hf
        have HG2 : Aside0 (G = (acc, i, f)) := ⟨by
          have h1 := HS.out
          have h2 := FNO.out hf
          rw [h2] at h1
          rw [h1, if_neg (by intro e; have := congrArg List.length e; rw [List.length_drop, HN.out] at this; simp at this; omega)]
          simp⟩
        obtain rfl := HG2.out
        clear hf HG2 HS FTK FNO TNO HT HRC HX
        go_wp2
        refine bodyPost_ret (v := .tuple #[u6, u7, .int .i64 (i : Int), .int .i64 f]) (by simp [results, Try.results53, go_sem]) rfl ?_
        exact ⟨_, _, rfl, H64.out, H74.out, B4.out⟩
    · obtain rfl : i = N := by omega
      have HG2 : Aside0 (G = (acc, i, 0)) := ⟨by
        have h1 := HS.out
        rw [List.drop_eq_nil_of_le (by rw [HN.out]; exact Nat.le_refl _), frames_nil] at h1
        simpa using h1⟩
      obtain rfl := HG2.out
      clear HG2 HS HG HI
      go_wp2
      refine bodyPost_ret (v := .tuple #[u6, u7, .int .i64 (i : Int), .int .i64 0]) (by simp [results, Try.results53, go_sem]) rfl ?_
      exact ⟨_, _, rfl, H6.out, H7.out, HB.out⟩
end Go.Proofs.Ytalpemoodollpaa.P
/- frame.Each. -/
namespace Go.Proofs.Ytalpemoodollpaa.P
open Go.RowKit Go.Shelf Go.Proofs.YtalpemoodollpaaW.PrintWords Go.Proofs.YtalpemoodollpaaW.PrintLast Go.Proofs.YtalpemoodollpaaW.PrintMore
set_option linter.unusedVariables false
set_option linter.unusedSimpArgs false
attribute [local go_sem] Oper.semAt_some
/-- What Each hands on: the place, the payload's slice, the payload. -/
structure El where
  at_ : Int
  v : Value
  p : List Int
def encE (x : El) : Array Value := #[.int .i64 x.at_, x.v]
def PrE (x : El) (W : World) : Prop := ∃ A c, x.v = .slice A x.p.length c ∧ x.p.length ≤ c ∧ Kd.C (Kd.int .u8) W A x.p.length x.p
/-- What a round must keep: what lay below m, and the box B. -/
def KpE (m B : Nat) (W W' : World) : Prop := Below m W W' ∧ W'.heap[B]? = W.heap[B]?
theorem KpE.refl (m B : Nat) (W : World) : KpE m B W W := ⟨Below.refl _ _, rfl⟩
theorem KpE.t {m B : Nat} {X Y Z : World} (h : KpE m B X Y) (k : KpE m B Y Z) : KpE m B X Z := ⟨h.1.trans k.1, k.2.trans h.2⟩
theorem KpE.b {m B : Nat} {w : World} (hm : m ≤ w.heap.size) (hB : B < w.heap.size) (W : World) (l : Nat) (o o' : Obj) (hl : w.heap.size ≤ l) (h : W.heap[l]? = some o) (h1 : o.isCells = false) (h2 : o.isWalk = false) : KpE m B W (W.putObj l o') :=
  ⟨belowK_b hm W l o o' hl h h1 h2, World.putObj_heap_other (by omega)⟩
theorem KpE.below {m B : Nat} {X Y Z : World} (h : KpE m B X Y) (hm : m ≤ Y.heap.size) (hB : B < Y.heap.size) (k : Below Y.heap.size Y Z) : KpE m B X Z :=
  ⟨below_then h.1 hm k, (k.block _ hB).trans h.2⟩
theorem C_put {W : World} {A : Option Addr} {k : Nat} {xs : List Int} {l : Nat} {o : Obj} (o' : Obj) (h : Kd.C (Kd.int .u8) W A k xs) (hl : W.heap[l]? = some o) (ho : o.isCells = false) : Kd.C (Kd.int .u8) (W.putObj l o') A k xs := by
  refine Kd.C_of_reads (d := (0 : Int)) ?_
  have h' := Kd.reads_of_C (d := (0 : Int)) h
  refine ⟨h'.1, h'.2.1, fun hp => ?_⟩
  obtain ⟨ad, rfl, hcell⟩ := h'.2.2 hp
  exact ⟨ad, rfl, fun j hj => cell_kept (hcell j hj) (grownBy_putObj' W l o') (fun r e => by cases e; exact ⟨o, hl, ho⟩)⟩
theorem PrE.put (x : El) (W : World) (l : Nat) (o o' : Obj) (h : PrE x W) (hl : W.heap[l]? = some o) (ho : o.isCells = false) : PrE x (W.putObj l o') := by
  obtain ⟨A, c, e, hq, hC⟩ := h
  exact ⟨A, c, e, hq, C_put o' hC hl ho⟩
/-- What has come: the frames, each at its place. -/
def came (pre : List El) : List (Int × List Int) := pre.map fun x => (x.at_, x.p)
def eachL (fs : List (List Int)) : List (Int × List Int) := (placesOf 0 fs).zip fs
theorem eachL_snoc (fs : List (List Int)) (p : List Int) : eachL (fs ++ [p]) = eachL fs ++ [((total fs : Int), p)] := by
  unfold eachL
  rw [placesOf_snoc, List.zip_append (placesOf_length fs 0)]
  simp
set_option maxRecDepth 100000 in
set_option maxHeartbeats 2000000 in
theorem each1_in (n l Bs m0 : Nat) (A0 : Option Addr) (c0 : Nat) (bs : List Int) (w0 W : World) (hn : 1 ≤ n) (J Jx : List El → World → Prop)
    (hm : m0 ≤ W.heap.size) (hBs : W.heap[Bs]? = some (.cells #[.slice A0 bs.length c0] 30 (0, 0))) (hrb : RB w0 A0 bs c0) (hw0 : w0.heap.size = m0) (hbl : Below m0 w0 W) (hl : bs.length ≤ 1000000)
    (hJ : AbidesFrom W.heap.size J) (hJx : AbidesFrom W.heap.size Jx)
    (hY : ∀ pre x W1, J pre W1 → PrE x W1 → (∃ fs, fs <+: (frames bs).1 ∧ came (pre ++ [x]) = eachL fs) → pre.length < (frames bs).1.length → YieldAt Fence.wide (n - 1) Try.prog l (encE x) W1 fun e W' =>
      (e = .returned (.bool true) ∧ J (pre ++ [x]) W' ∧ KpE m0 Bs W1 W') ∨ (e = .returned (.bool false) ∧ Jx (pre ++ [x]) W'))
    (h0 : J [] W) :
    CallsIn Fence.wide n Try.prog 111 #[.func (.yield l) #[] #[], .pointer (some ⟨Bs, 0, none⟩)] W fun e W' => (∃ v, e = .returned v) ∧
      ((∃ ys, came ys = eachL (frames bs).1 ∧ J ys W') ∨ (∃ pre, (∃ fs, fs <+: (frames bs).1 ∧ came pre = eachL fs) ∧ Jx pre W')) := by
  have HRB := Aside0.mk hrb
  have HBX := Aside0.mk hBs
  have HBL := Aside0.mk hbl
  obtain ⟨N, hN⟩ : ∃ N, bs.length = N := ⟨_, rfl⟩
  have HN := Aside0.mk hN
  rw [hN] at HBX hl
  have HJ := Aside0.mk hJ
  have HJX := Aside0.mk hJx
  have HY := Aside0.mk hY
  have HW0 := Aside0.mk hw0
  have hl2 : (N : Int) ≤ 1000000 := by omega
  have c0_ : W.cell? ⟨Bs, 0, none⟩ = some (.slice A0 N c0) := (blk_cell HBX.out 0).trans rfl
  clear hBs hrb hbl hN hJ hJx hY hw0
  refine callsIn_of_wp Try.func111 rfl trivial ?_ rfl
  simp only [Try.ntmps111, List.size_toArray, List.length_cons, List.length_nil, Nat.reduceAdd, Nat.reduceSub, Array.replicate_succ, Array.replicate_zero, List.push_toArray, List.append_toArray, List.nil_append, List.cons_append]
  gi_wp2
  gi_loopw [3] (fun u3 wr => ∃ (i : Nat) (acc : List (List Int)) (pre : List El), u3 = .int .i64 (i : Int) ∧ i ≤ N ∧ Aside0 (i = total acc) ∧ Aside0 ((frames bs).1 = acc ++ (frames (bs.drop i)).1) ∧ Aside0 (came pre = eachL acc) ∧ Aside0 (J pre wr) ∧ Aside0 (KpE m0 Bs W wr)) (fun u3 _ => (N - (intOf u3).toNat))
  case atStart => exact ⟨0, [], [], rfl, by omega, ⟨rfl⟩, ⟨by simp⟩, ⟨rfl⟩, ⟨h0⟩, ⟨KpE.refl _ _ _⟩⟩
  case round =>
    obtain ⟨i, acc, pre, rfl, hi, HI, HS, HCM, HJS, HKP⟩ := hrel
    have XB := Aside0.mk (HKP.out.2.trans HBX.out)
    have e0_ : wr.cell? ⟨Bs, 0, none⟩ = some (.slice A0 N c0) := (blk_cell XB.out 0).trans rfl
    by_cases hlt : i < N
    · obtain ⟨A', hcut, hrb', hall⟩ := HRB.out.cut i (by rw [HN.out]; omega)
      rw [HN.out] at hcut
      have hwr : Below w0.heap.size w0 wr := by rw [HW0.out]; exact HBL.out.trans HKP.out.1
      have hszW : W.heap.size ≤ wr.heap.size := HKP.out.1.size
      have TK := Aside0.mk (frame_Take.calls A' (c0 - i) (bs.drop i) (takeF (bs.drop i)).1 (takeF (bs.drop i)).2.1 (takeF (bs.drop i)).2.2 wr (Kd.C_below hrb'.hC hwr) hrb'.hc (show frame_Take.f (bs.drop i) = some (takeF (bs.drop i)) by
        unfold frame_Take.f; rw [if_pos ⟨bytB_of hrb'.hb, hrb'.hl⟩]))
      have FTK := Aside0.mk (fun h => FT.mk' (l := bs.drop i) hrb'.hb h)
      have FNO := Aside0.mk (fun h => frames_no (l := bs.drop i) h)
      have HDL := Aside0.mk (show (bs.drop i).length = N - i by rw [List.length_drop, HN.out])
      clear hrb' hall hwr
      generalize hT : takeF (bs.drop i) = T at *
      have HT := Aside0.mk hT
      clear hT
      obtain ⟨p, nn, f⟩ := T
      dsimp only at *
      generalize hdl : (bs.drop i).length = DL at *
      clear hdl
      gi_wp2_with fail
      refine ⟨trivial, ?_⟩
      refine (callsIn_wide.2 TK.out).mono ?_
      rintro e w4 ⟨v4, rfl, hR4, hb4⟩
      obtain ⟨X, m, rfl⟩ := Kd.R_slice hR4
      have HX := Aside0.mk (Kd.R_reads' hR4)
      have hJ4 : Aside0 (J pre w4) := ⟨HJ.out pre wr w4 none HJS.out (grown_of_below hb4 none) (fun r e => by cases e)⟩
      have HKP4 : Aside0 (KpE m0 Bs W w4) := ⟨KpE.below HKP.out (by have := HKP.out.1.size; omega) (by have := XB.out; have := (Array.getElem?_eq_some_iff.1 this).1; omega) hb4⟩
      clear hR4 hb4 TK HJS HKP XB e0_
      have XB := Aside0.mk (HKP4.out.2.trans HBX.out)
      have e0_ : w4.cell? ⟨Bs, 0, none⟩ = some (.slice A0 N c0) := (blk_cell XB.out 0).trans rfl
      by_cases hf : f = 0
      · subst hf
        obtain ⟨p', n', hft⟩ := FTK.out rfl
        have htk := hft.tk
        rw [HT.out] at htk
        injection htk with ep en
        injection en with en _
        subst ep en
        have hn2 := hft.two
        have hnl := hft.len
        have hpn := hft.pn
        have hnN : i + n' ≤ N := by have := HDL.out; rw [List.length_drop, HN.out] at hnl; omega
        have HS2 : Aside0 ((frames bs).1 = (acc ++ [p]) ++ (frames (bs.drop (i + n'))).1) := ⟨by
          rw [HS.out, hft.frames, List.drop_drop]
          simp⟩
        have HI2 : Aside0 (i + n' = total (acc ++ [p])) := ⟨by rw [total_snoc, ← HI.out]; omega⟩
        have HCM2 : Aside0 (came (pre ++ [⟨i, .slice X p.length m, p⟩]) = eachL (acc ++ [p])) := ⟨by
          rw [eachL_snoc, ← HI.out, ← HCM.out]; simp [came]⟩
        have hlen : pre.length < (frames bs).1.length := by
          have h1 := congrArg List.length HCM.out
          have h2 := congrArg List.length HS2.out
          simp only [came, eachL, List.length_map, List.length_zip, placesOf_length, Nat.min_self] at h1
          simp only [List.length_append, List.length_cons, List.length_nil] at h2
          omega
        have hpr : PrE ⟨i, .slice X p.length m, p⟩ w4 := ⟨X, m, rfl, HX.out.2.1, HX.out.2.2⟩
        obtain ⟨fn, tmps, assign, body, hy, hR⟩ := HY.out pre ⟨i, .slice X p.length m, p⟩ w4 hJ4.out hpr ⟨acc ++ [p], ⟨_, HS2.out.symm⟩, HCM2.out⟩ hlen
        have HRR := Aside0.mk hR
        clear hR
        dsimp only [encE] at hy
        clear hft hpr HS HI FTK FNO HT HCM hpn hnl hlen
        have hnN2 : (i : Int) + (n' : Int) ≤ (N : Int) := by omega
        gi_wp2
        refine HRR.out.mono ?_
        rintro e W3 (⟨rfl, hJ3, hk3⟩ | ⟨rfl, hJx3⟩)
        · have HJ3 := Aside0.mk hJ3
          have HKP3 : Aside0 (KpE m0 Bs W W3) := ⟨HKP4.out.t hk3⟩
          clear hJ3 hk3
          gi_wp2
          go_roundw
          case rel => exact ⟨i + n', acc ++ [p], pre ++ [⟨i, .slice X p.length m, p⟩], by go_num, by omega, HI2, HS2, HCM2, HJ3, HKP3⟩
          case measure => simp [intOf]; omega
        · gi_wp2
          refine bodyPost_ret (results_none rfl _ _ _) rfl ?_
          exact ⟨⟨_, rfl⟩, .inr ⟨_, ⟨acc ++ [p], ⟨_, HS2.out.symm⟩, HCM2.out⟩, hJx3⟩⟩
      · have hff : (f != 0) = true := by simpa using hf
        have HD : Aside0 (came pre = eachL (frames bs).1) := ⟨by
          rw [HCM.out, HS.out, FNO.out hf, List.append_nil]⟩
        clear HS HI FTK FNO HT HCM
        clear HY HJ HJX
        gi_wp2
        refine ⟨(fun f h => by cases h), ?_⟩
        gi_wp2
        refine bodyPost_ret (results_none rfl _ _ _) rfl ?_
        exact ⟨⟨_, rfl⟩, .inl ⟨pre, HD.out, hJ4.out⟩⟩
    · obtain rfl : i = N := by omega
      gi_wp2
      go_end0
      refine ⟨⟨_, rfl⟩, .inl ⟨pre, ?_, HJS.out⟩⟩
      have h1 := HS.out
      rw [List.drop_eq_nil_of_le (by rw [HN.out]; exact Nat.le_refl _), frames_nil] at h1
      rw [HCM.out, h1, List.append_nil]
theorem placesOf_append (a b : List (List Int)) : ∀ k, placesOf k (a ++ b) = placesOf k a ++ placesOf (k + (total a : Int)) b := by
  induction a with
  | nil => intro k; simp [placesOf, total]
  | cons q a ih =>
    intro k
    have e : k + 2 + (q.length : Int) + (total a : Int) = k + ((2 + q.length + total a : Nat) : Int) := by omega
    simp only [placesOf, List.cons_append, ih, total, e]
theorem eachL_prefix {fs F : List (List Int)} (h : fs <+: F) : eachL fs <+: eachL F := by
  obtain ⟨r, rfl⟩ := h
  unfold eachL
  rw [placesOf_append, List.zip_append (placesOf_length fs 0)]
  exact ⟨_, rfl⟩
theorem eachL_length (fs : List (List Int)) : (eachL fs).length = fs.length := by
  simp [eachL, List.length_zip, placesOf_length]
/-- What comes next is the frame whose turn it is. -/
theorem came_next {F : List (List Int)} {pre : List El} {x : El} (h : ∃ fs, fs <+: F ∧ came (pre ++ [x]) = eachL fs) :
    pre.length < F.length ∧ (placesOf 0 F)[pre.length]? = some x.at_ ∧ F[pre.length]? = some x.p := by
  obtain ⟨fs, hp, hc⟩ := h
  have h1 : (eachL fs)[pre.length]? = some (x.at_, x.p) := by
    rw [← hc]
    simp [came]
  obtain ⟨r, hr⟩ := eachL_prefix hp
  have hlt : pre.length < (eachL fs).length := (List.getElem?_eq_some_iff.1 h1).1
  have h2 : (eachL F)[pre.length]? = some (x.at_, x.p) := by rw [← hr, List.getElem?_append_left hlt]; exact h1
  have h3 : pre.length < F.length := by
    have := (List.getElem?_eq_some_iff.1 h2).1
    rwa [eachL_length] at this
  refine ⟨h3, ?_⟩
  unfold eachL at h2
  rw [List.getElem?_zip_eq_some] at h2
  exact h2
/-- **frame.Each's value: every frame; or a prefix.** -/
theorem each_stops (n Bs m0 : Nat) (A0 : Option Addr) (c0 : Nat) (bs : List Int) (w0 w : World) (hn : 1 ≤ n) (hm : m0 ≤ w.heap.size) (hBs : w.heap[Bs]? = some (.cells #[.slice A0 bs.length c0] 30 (0, 0))) (hrb : RB w0 A0 bs c0) (hw0 : w0.heap.size = m0)
    (hbl : Below m0 w0 w) (hl : bs.length ≤ 1000000) :
    SeqPr Fence.wide n Try.prog 111 #[.pointer (some ⟨Bs, 0, none⟩)] encE PrE (KpE m0 Bs) (fun ys => came ys = eachL (frames bs).1) (fun pre => ∃ fs, fs <+: (frames bs).1 ∧ came pre = eachL fs) (frames bs).1.length w := fun l J Jx W hW hJ hJx hY h0 =>
  each1_in n l Bs m0 A0 c0 bs w0 W hn J Jx (Nat.le_trans hm hW.size) ((hW.block _ (Array.getElem?_eq_some_iff.1 hBs).1).trans hBs) hrb hw0 (hbl.trans (hW.mono hm)) hl hJ hJx hY h0
set_option maxRecDepth 100000 in
set_option maxHeartbeats 1000000 in
/-- **frame.Each**: the slice is boxed; the function value captures the box. -/
theorem each_calls (a : Option Addr) (len cap : Nat) (w : World) :
    Calls Try.prog 54 #[.slice a len cap] w fun e w' => e = .returned (.func (.func 111) #[] #[.pointer (some ⟨w.heap.size, 0, none⟩)]) ∧ w' = w.alloc (.cells #[.slice a len cap] 30) := by
  go_enter Try.func54, Try.ntmps54
  go_wp2
  go_ret
  exact ⟨rfl, rfl⟩
theorem blk_own {A B : World} {B0 b : Nat} {t : TypeId} {cs : Array Value} {row : Option Nat} (h : A.heap[b]? = some (.cells cs t (0, 0))) (hg : A.grownBy B row) (hr : ∀ r, row = some r → B0 ≤ r ∧ ∃ o : Obj, A.heap[r]? = some o ∧ o.isCells = false) : B.heap[b]? = some (.cells cs t (0, 0)) := by
  refine (hg.block b (blk_lt h) ?_).trans h
  intro e
  obtain ⟨_, o, ho, hc⟩ := hr b e.symm
  rw [h] at ho
  cases ho
  exact absurd hc (by simp [Obj.isCells])
end Go.Proofs.Ytalpemoodollpaa.P
/- What an input reads as: from a row's data down to the print's readings. -/
namespace Go.Proofs.Ytalpemoodollpaa.P
open Go.RowKit Go.ChangeShapes Go.WideShapes Go.Deep Go.Proofs.YtalpemoodollpaaW.PrintWords Go.Proofs.YtalpemoodollpaaW.PrintLast Go.Proofs.YtalpemoodollpaaW.PrintMore
set_option linter.unusedVariables false
set_option linter.unusedSimpArgs false

/-- What reads as data of type t reads as the kind K, and has R. -/
def Opens {α : Type} (t : TypeId) (K : Kd α) (R : α → Prop) : Prop :=
  ∀ {H : Type} {enc : TypeId × Value → H} {w : World} {fuel : Nat} {cs : List Value} {x : DataW H × List MemPlace}, DataW.trod enc Try.prog w 0 (fun _ => true) true fuel t cs = some x → ∃ a, K.K w a cs ∧ R a

theorem opens_int {t : TypeId} {k : IntKind} (ht : Try.prog.underlying t = some (.int k)) : Opens t (Kd.int k) (fun n => (Lit.int k n).wf = true) := by
  intro H enc w fuel cs x h
  obtain ⟨n, rfl, _, hw⟩ := DataW.trod_int ht h
  exact ⟨n, rfl, hw⟩

theorem addr_add_add (a : Addr) (i j : Nat) : (a.add i).add j = a.add (i + j) := by
  unfold Addr.add
  by_cases hi : i = 0
  · subst hi; simp
  · by_cases hj : j = 0
    · subst hj; simp [hi]
    · simp [hi, hj, Nat.add_assoc]
theorem opens_slice {α : Type} [Inhabited α] {t e e' : TypeId} {K : Kd α} {R : α → Prop} (ht : Try.prog.underlying t = some (.slice e)) (hc : Try.prog.cellsOf e = K.sz) (he : Opens e K R) :
    Opens t (Kd.slice e' K) (fun xs => ∀ x ∈ xs, R x) := by
  intro H enc w fuel cs x h
  rcases open_slice ht h with ⟨rfl, _⟩ | ⟨a, len, cap, m, n, D, Pl, rfl, hb, hl, hm, hmm, rfl, hx⟩
  · exact ⟨[], ⟨none, 0, rfl, Nat.le_refl _, rfl, by simp, fun h => absurd h (by simp)⟩, by simp⟩
  · have hmm : m = cap := by simpa using hmm
    subst hmm
    have hall : ∀ i, i < len → ∃ v : α, R v ∧ ∃ c : List Value, c.length = K.sz ∧ K.K w v c ∧ ∀ j u, c[j]? = some u → w.cell? (a.add (i * K.sz + j)) = some u := by
      intro i hi
      obtain ⟨cs', h1, h2⟩ := hx i (by omega)
      obtain ⟨v, hv, hr⟩ := he h2
      rw [hc] at h1
      obtain ⟨_, hlen, hcell⟩ := World.cells?_some h1
      refine ⟨v, hr, cs', hlen, hv, fun j u hu => ?_⟩
      have hj : j < K.sz := by
        obtain ⟨hl, _⟩ := List.getElem?_eq_some_iff.1 hu
        omega
      have := hcell j hj
      rw [hu] at this
      rw [← this, addr_add_add]
    have : ∃ f : Nat → α, ∀ i, i < len → R (f i) ∧ ∃ c : List Value, c.length = K.sz ∧ K.K w (f i) c ∧ ∀ j u, c[j]? = some u → w.cell? (a.add (i * K.sz + j)) = some u := by
      exact choose_lt hall
    obtain ⟨f, hf⟩ := this
    refine ⟨(List.range len).map f, ⟨some a, m, by simp, by simpa using hl, rfl, by simp; unfold maxLen at hm; omega, fun _ => ⟨a, rfl, fun j p hj => ?_⟩⟩, ?_⟩
    · obtain ⟨hj1, hj2⟩ := List.getElem?_eq_some_iff.1 hj
      simp at hj1 hj2
      subst hj2
      exact (hf j hj1).2
    · intro y hy
      simp at hy
      obtain ⟨i, hi, rfl⟩ := hy
      exact (hf i hi).1

instance : Inhabited S29 := ⟨z29⟩
instance : Inhabited S49 := ⟨z49⟩
instance : Inhabited S91 := ⟨z91⟩
theorem opens_bytes : Opens 30 (Kd.slice 5 (Kd.int .u8)) (fun xs => ∀ y ∈ xs, (Lit.int .u8 y).wf = true) := opens_slice Try.underlying30 (by kernel_rfl) (opens_int Try.underlying5)
def WF29 (x : S29) : Prop := (Lit.int .i64 x.f0).wf = true ∧ (Lit.int .i64 x.f1).wf = true ∧ (Lit.int .i64 x.f2).wf = true ∧ (Lit.int .i64 x.f3).wf = true ∧ (Lit.int .i64 x.f4).wf = true ∧ (Lit.int .i64 x.f5).wf = true ∧ (Lit.int .i64 x.f6).wf = true ∧ (Lit.int .i64 x.f7).wf = true ∧ (Lit.int .i64 x.f8).wf = true
set_option maxRecDepth 100000 in
theorem opens_29 : Opens 29 k29 WF29 := by
  intro H enc w fuel cs x h
  obtain ⟨xs, n, _, _, hl, hlen, hf⟩ := DataW.trod_struct Try.underlying29 h
  have hc : Try.prog.cellsOf 29 = 9 := by kernel_rfl
  rw [hc] at hl
  have hs : xs.length = 9 := hlen
  clear hlen h
  match cs, hl with
  | [c0, c1, c2, c3, c4, c5, c6, c7, c8], _ =>
    match xs, hs with
    | [x0, x1, x2, x3, x4, x5, x6, x7, x8], _ =>
      have t0 : DataW.trod enc Try.prog w 0 (fun _ => true) true n 3 (([c0, c1, c2, c3, c4, c5, c6, c7, c8].drop 0).take (Try.prog.cellsOf 3)) = [x0, x1, x2, x3, x4, x5, x6, x7, x8][0]? := hf 0 _ rfl
      rw [show Try.prog.cellsOf 3 = 1 by kernel_rfl] at t0
      replace t0 : DataW.trod enc Try.prog w 0 (fun _ => true) true n 3 [c0] = some x0 := t0
      have t1 : DataW.trod enc Try.prog w 0 (fun _ => true) true n 3 (([c0, c1, c2, c3, c4, c5, c6, c7, c8].drop 1).take (Try.prog.cellsOf 3)) = [x0, x1, x2, x3, x4, x5, x6, x7, x8][1]? := hf 1 _ rfl
      rw [show Try.prog.cellsOf 3 = 1 by kernel_rfl] at t1
      replace t1 : DataW.trod enc Try.prog w 0 (fun _ => true) true n 3 [c1] = some x1 := t1
      have t2 : DataW.trod enc Try.prog w 0 (fun _ => true) true n 2 (([c0, c1, c2, c3, c4, c5, c6, c7, c8].drop 2).take (Try.prog.cellsOf 2)) = [x0, x1, x2, x3, x4, x5, x6, x7, x8][2]? := hf 2 _ rfl
      rw [show Try.prog.cellsOf 2 = 1 by kernel_rfl] at t2
      replace t2 : DataW.trod enc Try.prog w 0 (fun _ => true) true n 2 [c2] = some x2 := t2
      have t3 : DataW.trod enc Try.prog w 0 (fun _ => true) true n 2 (([c0, c1, c2, c3, c4, c5, c6, c7, c8].drop 3).take (Try.prog.cellsOf 2)) = [x0, x1, x2, x3, x4, x5, x6, x7, x8][3]? := hf 3 _ rfl
      rw [show Try.prog.cellsOf 2 = 1 by kernel_rfl] at t3
      replace t3 : DataW.trod enc Try.prog w 0 (fun _ => true) true n 2 [c3] = some x3 := t3
      have t4 : DataW.trod enc Try.prog w 0 (fun _ => true) true n 2 (([c0, c1, c2, c3, c4, c5, c6, c7, c8].drop 4).take (Try.prog.cellsOf 2)) = [x0, x1, x2, x3, x4, x5, x6, x7, x8][4]? := hf 4 _ rfl
      rw [show Try.prog.cellsOf 2 = 1 by kernel_rfl] at t4
      replace t4 : DataW.trod enc Try.prog w 0 (fun _ => true) true n 2 [c4] = some x4 := t4
      have t5 : DataW.trod enc Try.prog w 0 (fun _ => true) true n 2 (([c0, c1, c2, c3, c4, c5, c6, c7, c8].drop 5).take (Try.prog.cellsOf 2)) = [x0, x1, x2, x3, x4, x5, x6, x7, x8][5]? := hf 5 _ rfl
      rw [show Try.prog.cellsOf 2 = 1 by kernel_rfl] at t5
      replace t5 : DataW.trod enc Try.prog w 0 (fun _ => true) true n 2 [c5] = some x5 := t5
      have t6 : DataW.trod enc Try.prog w 0 (fun _ => true) true n 2 (([c0, c1, c2, c3, c4, c5, c6, c7, c8].drop 6).take (Try.prog.cellsOf 2)) = [x0, x1, x2, x3, x4, x5, x6, x7, x8][6]? := hf 6 _ rfl
      rw [show Try.prog.cellsOf 2 = 1 by kernel_rfl] at t6
      replace t6 : DataW.trod enc Try.prog w 0 (fun _ => true) true n 2 [c6] = some x6 := t6
      have t7 : DataW.trod enc Try.prog w 0 (fun _ => true) true n 2 (([c0, c1, c2, c3, c4, c5, c6, c7, c8].drop 7).take (Try.prog.cellsOf 2)) = [x0, x1, x2, x3, x4, x5, x6, x7, x8][7]? := hf 7 _ rfl
      rw [show Try.prog.cellsOf 2 = 1 by kernel_rfl] at t7
      replace t7 : DataW.trod enc Try.prog w 0 (fun _ => true) true n 2 [c7] = some x7 := t7
      have t8 : DataW.trod enc Try.prog w 0 (fun _ => true) true n 3 (([c0, c1, c2, c3, c4, c5, c6, c7, c8].drop 8).take (Try.prog.cellsOf 3)) = [x0, x1, x2, x3, x4, x5, x6, x7, x8][8]? := hf 8 _ rfl
      rw [show Try.prog.cellsOf 3 = 1 by kernel_rfl] at t8
      replace t8 : DataW.trod enc Try.prog w 0 (fun _ => true) true n 3 [c8] = some x8 := t8
      clear hf
      obtain ⟨a0, e0, r0⟩ := opens_int (k := .i64) Try.underlying3 t0
      injection e0 with e0 _
      subst e0
      obtain ⟨a1, e1, r1⟩ := opens_int (k := .i64) Try.underlying3 t1
      injection e1 with e1 _
      subst e1
      obtain ⟨a2, e2, r2⟩ := opens_int (k := .i64) Try.underlying2 t2
      injection e2 with e2 _
      subst e2
      obtain ⟨a3, e3, r3⟩ := opens_int (k := .i64) Try.underlying2 t3
      injection e3 with e3 _
      subst e3
      obtain ⟨a4, e4, r4⟩ := opens_int (k := .i64) Try.underlying2 t4
      injection e4 with e4 _
      subst e4
      obtain ⟨a5, e5, r5⟩ := opens_int (k := .i64) Try.underlying2 t5
      injection e5 with e5 _
      subst e5
      obtain ⟨a6, e6, r6⟩ := opens_int (k := .i64) Try.underlying2 t6
      injection e6 with e6 _
      subst e6
      obtain ⟨a7, e7, r7⟩ := opens_int (k := .i64) Try.underlying2 t7
      injection e7 with e7 _
      subst e7
      obtain ⟨a8, e8, r8⟩ := opens_int (k := .i64) Try.underlying3 t8
      injection e8 with e8 _
      subst e8
      exact ⟨⟨a0, a1, a2, a3, a4, a5, a6, a7, a8⟩, k29_mk w _, r0 , r1 , r2 , r3 , r4 , r5 , r6 , r7 , r8⟩
def WF49 (x : S49) : Prop := (Lit.int .i64 x.f0).wf = true ∧ (Lit.int .i64 x.f1).wf = true ∧ (Lit.int .u64 x.f2).wf = true ∧ (Lit.int .i64 x.f3).wf = true ∧ (∀ y ∈ x.f4, (Lit.int .u8 y).wf = true)
set_option maxRecDepth 100000 in
theorem opens_49 : Opens 49 k49 WF49 := by
  intro H enc w fuel cs x h
  obtain ⟨xs, n, _, _, hl, hlen, hf⟩ := DataW.trod_struct Try.underlying49 h
  have hc : Try.prog.cellsOf 49 = 5 := by kernel_rfl
  rw [hc] at hl
  have hs : xs.length = 5 := hlen
  clear hlen h
  match cs, hl with
  | [c0, c1, c2, c3, c4], _ =>
    match xs, hs with
    | [x0, x1, x2, x3, x4], _ =>
      have t0 : DataW.trod enc Try.prog w 0 (fun _ => true) true n 3 (([c0, c1, c2, c3, c4].drop 0).take (Try.prog.cellsOf 3)) = [x0, x1, x2, x3, x4][0]? := hf 0 _ rfl
      rw [show Try.prog.cellsOf 3 = 1 by kernel_rfl] at t0
      replace t0 : DataW.trod enc Try.prog w 0 (fun _ => true) true n 3 [c0] = some x0 := t0
      have t1 : DataW.trod enc Try.prog w 0 (fun _ => true) true n 3 (([c0, c1, c2, c3, c4].drop 1).take (Try.prog.cellsOf 3)) = [x0, x1, x2, x3, x4][1]? := hf 1 _ rfl
      rw [show Try.prog.cellsOf 3 = 1 by kernel_rfl] at t1
      replace t1 : DataW.trod enc Try.prog w 0 (fun _ => true) true n 3 [c1] = some x1 := t1
      have t2 : DataW.trod enc Try.prog w 0 (fun _ => true) true n 37 (([c0, c1, c2, c3, c4].drop 2).take (Try.prog.cellsOf 37)) = [x0, x1, x2, x3, x4][2]? := hf 2 _ rfl
      rw [show Try.prog.cellsOf 37 = 1 by kernel_rfl] at t2
      replace t2 : DataW.trod enc Try.prog w 0 (fun _ => true) true n 37 [c2] = some x2 := t2
      have t3 : DataW.trod enc Try.prog w 0 (fun _ => true) true n 2 (([c0, c1, c2, c3, c4].drop 3).take (Try.prog.cellsOf 2)) = [x0, x1, x2, x3, x4][3]? := hf 3 _ rfl
      rw [show Try.prog.cellsOf 2 = 1 by kernel_rfl] at t3
      replace t3 : DataW.trod enc Try.prog w 0 (fun _ => true) true n 2 [c3] = some x3 := t3
      have t4 : DataW.trod enc Try.prog w 0 (fun _ => true) true n 30 (([c0, c1, c2, c3, c4].drop 4).take (Try.prog.cellsOf 30)) = [x0, x1, x2, x3, x4][4]? := hf 4 _ rfl
      rw [show Try.prog.cellsOf 30 = 1 by kernel_rfl] at t4
      replace t4 : DataW.trod enc Try.prog w 0 (fun _ => true) true n 30 [c4] = some x4 := t4
      clear hf
      obtain ⟨a0, e0, r0⟩ := opens_int (k := .i64) Try.underlying3 t0
      injection e0 with e0 _
      subst e0
      obtain ⟨a1, e1, r1⟩ := opens_int (k := .i64) Try.underlying3 t1
      injection e1 with e1 _
      subst e1
      obtain ⟨a2, e2, r2⟩ := opens_int (k := .u64) Try.underlying37 t2
      injection e2 with e2 _
      subst e2
      obtain ⟨a3, e3, r3⟩ := opens_int (k := .i64) Try.underlying2 t3
      injection e3 with e3 _
      subst e3
      obtain ⟨a4, ⟨A4, cc4, e4, l4, g4⟩, r4⟩ := opens_bytes t4
      injection e4 with e4 _
      subst e4
      exact ⟨⟨a0, a1, a2, a3, a4⟩, k49_mk w _ l4 g4, r0 , r1 , r2 , r3 , r4⟩
def WF91 (x : S91) : Prop := (Lit.int .i64 x.f0).wf = true ∧ (Lit.int .i64 x.f1).wf = true ∧ (Lit.int .i64 x.f2).wf = true ∧ (∀ y ∈ x.f3, (Lit.int .u8 y).wf = true)
set_option maxRecDepth 100000 in
theorem opens_91 : Opens 91 k91 WF91 := by
  intro H enc w fuel cs x h
  obtain ⟨xs, n, _, _, hl, hlen, hf⟩ := DataW.trod_struct Try.underlying91 h
  have hc : Try.prog.cellsOf 91 = 4 := by kernel_rfl
  rw [hc] at hl
  have hs : xs.length = 4 := hlen
  clear hlen h
  match cs, hl with
  | [c0, c1, c2, c3], _ =>
    match xs, hs with
    | [x0, x1, x2, x3], _ =>
      have t0 : DataW.trod enc Try.prog w 0 (fun _ => true) true n 3 (([c0, c1, c2, c3].drop 0).take (Try.prog.cellsOf 3)) = [x0, x1, x2, x3][0]? := hf 0 _ rfl
      rw [show Try.prog.cellsOf 3 = 1 by kernel_rfl] at t0
      replace t0 : DataW.trod enc Try.prog w 0 (fun _ => true) true n 3 [c0] = some x0 := t0
      have t1 : DataW.trod enc Try.prog w 0 (fun _ => true) true n 3 (([c0, c1, c2, c3].drop 1).take (Try.prog.cellsOf 3)) = [x0, x1, x2, x3][1]? := hf 1 _ rfl
      rw [show Try.prog.cellsOf 3 = 1 by kernel_rfl] at t1
      replace t1 : DataW.trod enc Try.prog w 0 (fun _ => true) true n 3 [c1] = some x1 := t1
      have t2 : DataW.trod enc Try.prog w 0 (fun _ => true) true n 2 (([c0, c1, c2, c3].drop 2).take (Try.prog.cellsOf 2)) = [x0, x1, x2, x3][2]? := hf 2 _ rfl
      rw [show Try.prog.cellsOf 2 = 1 by kernel_rfl] at t2
      replace t2 : DataW.trod enc Try.prog w 0 (fun _ => true) true n 2 [c2] = some x2 := t2
      have t3 : DataW.trod enc Try.prog w 0 (fun _ => true) true n 30 (([c0, c1, c2, c3].drop 3).take (Try.prog.cellsOf 30)) = [x0, x1, x2, x3][3]? := hf 3 _ rfl
      rw [show Try.prog.cellsOf 30 = 1 by kernel_rfl] at t3
      replace t3 : DataW.trod enc Try.prog w 0 (fun _ => true) true n 30 [c3] = some x3 := t3
      clear hf
      obtain ⟨a0, e0, r0⟩ := opens_int (k := .i64) Try.underlying3 t0
      injection e0 with e0 _
      subst e0
      obtain ⟨a1, e1, r1⟩ := opens_int (k := .i64) Try.underlying3 t1
      injection e1 with e1 _
      subst e1
      obtain ⟨a2, e2, r2⟩ := opens_int (k := .i64) Try.underlying2 t2
      injection e2 with e2 _
      subst e2
      obtain ⟨a3, ⟨A3, cc3, e3, l3, g3⟩, r3⟩ := opens_bytes t3
      injection e3 with e3 _
      subst e3
      exact ⟨⟨a0, a1, a2, a3⟩, k91_mk w _ l3 g3, r0 , r1 , r2 , r3⟩
set_option maxRecDepth 100000 in
theorem opened_29 {H : Type} {enc : TypeId × Value → H} {w : World} {fuel : Nat} {cs : List Value} {x : DataW H × List MemPlace} (h : DataW.trod enc Try.prog w 0 (fun _ => true) true fuel 29 cs = some x) : ∃ a0 a1 a2 a3 a4 a5 a6 a7 a8 : Int, cs = [.int .i64 a0, .int .i64 a1, .int .i64 a2, .int .i64 a3, .int .i64 a4, .int .i64 a5, .int .i64 a6, .int .i64 a7, .int .i64 a8] ∧ (Lit.int .i64 a0).wf = true ∧ (Lit.int .i64 a1).wf = true ∧ (Lit.int .i64 a2).wf = true ∧ (Lit.int .i64 a3).wf = true ∧ (Lit.int .i64 a4).wf = true ∧ (Lit.int .i64 a5).wf = true ∧ (Lit.int .i64 a6).wf = true ∧ (Lit.int .i64 a7).wf = true ∧ (Lit.int .i64 a8).wf = true := by
  obtain ⟨xs, n, _, _, hl, hlen, hf⟩ := DataW.trod_struct Try.underlying29 h
  have hc : Try.prog.cellsOf 29 = 9 := by kernel_rfl
  rw [hc] at hl
  have hs : xs.length = 9 := hlen
  clear hlen h
  match cs, hl with
  | [c0, c1, c2, c3, c4, c5, c6, c7, c8], _ =>
    match xs, hs with
    | [x0, x1, x2, x3, x4, x5, x6, x7, x8], _ =>
      have t0 : DataW.trod enc Try.prog w 0 (fun _ => true) true n 3 (([c0, c1, c2, c3, c4, c5, c6, c7, c8].drop 0).take (Try.prog.cellsOf 3)) = [x0, x1, x2, x3, x4, x5, x6, x7, x8][0]? := hf 0 _ rfl
      rw [show Try.prog.cellsOf 3 = 1 by kernel_rfl] at t0
      replace t0 : DataW.trod enc Try.prog w 0 (fun _ => true) true n 3 [c0] = some x0 := t0
      have t1 : DataW.trod enc Try.prog w 0 (fun _ => true) true n 3 (([c0, c1, c2, c3, c4, c5, c6, c7, c8].drop 1).take (Try.prog.cellsOf 3)) = [x0, x1, x2, x3, x4, x5, x6, x7, x8][1]? := hf 1 _ rfl
      rw [show Try.prog.cellsOf 3 = 1 by kernel_rfl] at t1
      replace t1 : DataW.trod enc Try.prog w 0 (fun _ => true) true n 3 [c1] = some x1 := t1
      have t2 : DataW.trod enc Try.prog w 0 (fun _ => true) true n 2 (([c0, c1, c2, c3, c4, c5, c6, c7, c8].drop 2).take (Try.prog.cellsOf 2)) = [x0, x1, x2, x3, x4, x5, x6, x7, x8][2]? := hf 2 _ rfl
      rw [show Try.prog.cellsOf 2 = 1 by kernel_rfl] at t2
      replace t2 : DataW.trod enc Try.prog w 0 (fun _ => true) true n 2 [c2] = some x2 := t2
      have t3 : DataW.trod enc Try.prog w 0 (fun _ => true) true n 2 (([c0, c1, c2, c3, c4, c5, c6, c7, c8].drop 3).take (Try.prog.cellsOf 2)) = [x0, x1, x2, x3, x4, x5, x6, x7, x8][3]? := hf 3 _ rfl
      rw [show Try.prog.cellsOf 2 = 1 by kernel_rfl] at t3
      replace t3 : DataW.trod enc Try.prog w 0 (fun _ => true) true n 2 [c3] = some x3 := t3
      have t4 : DataW.trod enc Try.prog w 0 (fun _ => true) true n 2 (([c0, c1, c2, c3, c4, c5, c6, c7, c8].drop 4).take (Try.prog.cellsOf 2)) = [x0, x1, x2, x3, x4, x5, x6, x7, x8][4]? := hf 4 _ rfl
      rw [show Try.prog.cellsOf 2 = 1 by kernel_rfl] at t4
      replace t4 : DataW.trod enc Try.prog w 0 (fun _ => true) true n 2 [c4] = some x4 := t4
      have t5 : DataW.trod enc Try.prog w 0 (fun _ => true) true n 2 (([c0, c1, c2, c3, c4, c5, c6, c7, c8].drop 5).take (Try.prog.cellsOf 2)) = [x0, x1, x2, x3, x4, x5, x6, x7, x8][5]? := hf 5 _ rfl
      rw [show Try.prog.cellsOf 2 = 1 by kernel_rfl] at t5
      replace t5 : DataW.trod enc Try.prog w 0 (fun _ => true) true n 2 [c5] = some x5 := t5
      have t6 : DataW.trod enc Try.prog w 0 (fun _ => true) true n 2 (([c0, c1, c2, c3, c4, c5, c6, c7, c8].drop 6).take (Try.prog.cellsOf 2)) = [x0, x1, x2, x3, x4, x5, x6, x7, x8][6]? := hf 6 _ rfl
      rw [show Try.prog.cellsOf 2 = 1 by kernel_rfl] at t6
      replace t6 : DataW.trod enc Try.prog w 0 (fun _ => true) true n 2 [c6] = some x6 := t6
      have t7 : DataW.trod enc Try.prog w 0 (fun _ => true) true n 2 (([c0, c1, c2, c3, c4, c5, c6, c7, c8].drop 7).take (Try.prog.cellsOf 2)) = [x0, x1, x2, x3, x4, x5, x6, x7, x8][7]? := hf 7 _ rfl
      rw [show Try.prog.cellsOf 2 = 1 by kernel_rfl] at t7
      replace t7 : DataW.trod enc Try.prog w 0 (fun _ => true) true n 2 [c7] = some x7 := t7
      have t8 : DataW.trod enc Try.prog w 0 (fun _ => true) true n 3 (([c0, c1, c2, c3, c4, c5, c6, c7, c8].drop 8).take (Try.prog.cellsOf 3)) = [x0, x1, x2, x3, x4, x5, x6, x7, x8][8]? := hf 8 _ rfl
      rw [show Try.prog.cellsOf 3 = 1 by kernel_rfl] at t8
      replace t8 : DataW.trod enc Try.prog w 0 (fun _ => true) true n 3 [c8] = some x8 := t8
      clear hf
      obtain ⟨a0, e0, r0⟩ := opens_int (k := .i64) Try.underlying3 t0
      injection e0 with e0 _
      subst e0
      obtain ⟨a1, e1, r1⟩ := opens_int (k := .i64) Try.underlying3 t1
      injection e1 with e1 _
      subst e1
      obtain ⟨a2, e2, r2⟩ := opens_int (k := .i64) Try.underlying2 t2
      injection e2 with e2 _
      subst e2
      obtain ⟨a3, e3, r3⟩ := opens_int (k := .i64) Try.underlying2 t3
      injection e3 with e3 _
      subst e3
      obtain ⟨a4, e4, r4⟩ := opens_int (k := .i64) Try.underlying2 t4
      injection e4 with e4 _
      subst e4
      obtain ⟨a5, e5, r5⟩ := opens_int (k := .i64) Try.underlying2 t5
      injection e5 with e5 _
      subst e5
      obtain ⟨a6, e6, r6⟩ := opens_int (k := .i64) Try.underlying2 t6
      injection e6 with e6 _
      subst e6
      obtain ⟨a7, e7, r7⟩ := opens_int (k := .i64) Try.underlying2 t7
      injection e7 with e7 _
      subst e7
      obtain ⟨a8, e8, r8⟩ := opens_int (k := .i64) Try.underlying3 t8
      injection e8 with e8 _
      subst e8
      exact ⟨a0, a1, a2, a3, a4, a5, a6, a7, a8, rfl, r0, r1, r2, r3, r4, r5, r6, r7, r8⟩
set_option maxRecDepth 100000 in
theorem opened_95 {H : Type} {enc : TypeId × Value → H} {w : World} {fuel : Nat} {cs : List Value} {x : DataW H × List MemPlace} (h : DataW.trod enc Try.prog w 0 (fun _ => true) true fuel 95 cs = some x) : ∃ a0 a1 a2 a3 a4 a5 a6 a7 a8 : Int, cs = [.int .i64 a0, .int .i64 a1, .int .i64 a2, .int .i64 a3, .int .i64 a4, .int .i64 a5, .int .i64 a6, .int .i64 a7, .int .i64 a8] ∧ (Lit.int .i64 a0).wf = true ∧ (Lit.int .i64 a1).wf = true ∧ (Lit.int .i64 a2).wf = true ∧ (Lit.int .i64 a3).wf = true ∧ (Lit.int .i64 a4).wf = true ∧ (Lit.int .i64 a5).wf = true ∧ (Lit.int .i64 a6).wf = true ∧ (Lit.int .i64 a7).wf = true ∧ (Lit.int .i64 a8).wf = true := by
  obtain ⟨xs, n, _, _, hl, hlen, hf⟩ := DataW.trod_struct Try.underlying95 h
  have hc : Try.prog.cellsOf 95 = 9 := by kernel_rfl
  rw [hc] at hl
  have hs : xs.length = 9 := hlen
  clear hlen h
  match cs, hl with
  | [c0, c1, c2, c3, c4, c5, c6, c7, c8], _ =>
    match xs, hs with
    | [x0, x1, x2, x3, x4, x5, x6, x7, x8], _ =>
      have t0 : DataW.trod enc Try.prog w 0 (fun _ => true) true n 3 (([c0, c1, c2, c3, c4, c5, c6, c7, c8].drop 0).take (Try.prog.cellsOf 3)) = [x0, x1, x2, x3, x4, x5, x6, x7, x8][0]? := hf 0 _ rfl
      rw [show Try.prog.cellsOf 3 = 1 by kernel_rfl] at t0
      replace t0 : DataW.trod enc Try.prog w 0 (fun _ => true) true n 3 [c0] = some x0 := t0
      have t1 : DataW.trod enc Try.prog w 0 (fun _ => true) true n 3 (([c0, c1, c2, c3, c4, c5, c6, c7, c8].drop 1).take (Try.prog.cellsOf 3)) = [x0, x1, x2, x3, x4, x5, x6, x7, x8][1]? := hf 1 _ rfl
      rw [show Try.prog.cellsOf 3 = 1 by kernel_rfl] at t1
      replace t1 : DataW.trod enc Try.prog w 0 (fun _ => true) true n 3 [c1] = some x1 := t1
      have t2 : DataW.trod enc Try.prog w 0 (fun _ => true) true n 2 (([c0, c1, c2, c3, c4, c5, c6, c7, c8].drop 2).take (Try.prog.cellsOf 2)) = [x0, x1, x2, x3, x4, x5, x6, x7, x8][2]? := hf 2 _ rfl
      rw [show Try.prog.cellsOf 2 = 1 by kernel_rfl] at t2
      replace t2 : DataW.trod enc Try.prog w 0 (fun _ => true) true n 2 [c2] = some x2 := t2
      have t3 : DataW.trod enc Try.prog w 0 (fun _ => true) true n 3 (([c0, c1, c2, c3, c4, c5, c6, c7, c8].drop 3).take (Try.prog.cellsOf 3)) = [x0, x1, x2, x3, x4, x5, x6, x7, x8][3]? := hf 3 _ rfl
      rw [show Try.prog.cellsOf 3 = 1 by kernel_rfl] at t3
      replace t3 : DataW.trod enc Try.prog w 0 (fun _ => true) true n 3 [c3] = some x3 := t3
      have t4 : DataW.trod enc Try.prog w 0 (fun _ => true) true n 3 (([c0, c1, c2, c3, c4, c5, c6, c7, c8].drop 4).take (Try.prog.cellsOf 3)) = [x0, x1, x2, x3, x4, x5, x6, x7, x8][4]? := hf 4 _ rfl
      rw [show Try.prog.cellsOf 3 = 1 by kernel_rfl] at t4
      replace t4 : DataW.trod enc Try.prog w 0 (fun _ => true) true n 3 [c4] = some x4 := t4
      have t5 : DataW.trod enc Try.prog w 0 (fun _ => true) true n 3 (([c0, c1, c2, c3, c4, c5, c6, c7, c8].drop 5).take (Try.prog.cellsOf 3)) = [x0, x1, x2, x3, x4, x5, x6, x7, x8][5]? := hf 5 _ rfl
      rw [show Try.prog.cellsOf 3 = 1 by kernel_rfl] at t5
      replace t5 : DataW.trod enc Try.prog w 0 (fun _ => true) true n 3 [c5] = some x5 := t5
      have t6 : DataW.trod enc Try.prog w 0 (fun _ => true) true n 2 (([c0, c1, c2, c3, c4, c5, c6, c7, c8].drop 6).take (Try.prog.cellsOf 2)) = [x0, x1, x2, x3, x4, x5, x6, x7, x8][6]? := hf 6 _ rfl
      rw [show Try.prog.cellsOf 2 = 1 by kernel_rfl] at t6
      replace t6 : DataW.trod enc Try.prog w 0 (fun _ => true) true n 2 [c6] = some x6 := t6
      have t7 : DataW.trod enc Try.prog w 0 (fun _ => true) true n 2 (([c0, c1, c2, c3, c4, c5, c6, c7, c8].drop 7).take (Try.prog.cellsOf 2)) = [x0, x1, x2, x3, x4, x5, x6, x7, x8][7]? := hf 7 _ rfl
      rw [show Try.prog.cellsOf 2 = 1 by kernel_rfl] at t7
      replace t7 : DataW.trod enc Try.prog w 0 (fun _ => true) true n 2 [c7] = some x7 := t7
      have t8 : DataW.trod enc Try.prog w 0 (fun _ => true) true n 3 (([c0, c1, c2, c3, c4, c5, c6, c7, c8].drop 8).take (Try.prog.cellsOf 3)) = [x0, x1, x2, x3, x4, x5, x6, x7, x8][8]? := hf 8 _ rfl
      rw [show Try.prog.cellsOf 3 = 1 by kernel_rfl] at t8
      replace t8 : DataW.trod enc Try.prog w 0 (fun _ => true) true n 3 [c8] = some x8 := t8
      clear hf
      obtain ⟨a0, e0, r0⟩ := opens_int (k := .i64) Try.underlying3 t0
      injection e0 with e0 _
      subst e0
      obtain ⟨a1, e1, r1⟩ := opens_int (k := .i64) Try.underlying3 t1
      injection e1 with e1 _
      subst e1
      obtain ⟨a2, e2, r2⟩ := opens_int (k := .i64) Try.underlying2 t2
      injection e2 with e2 _
      subst e2
      obtain ⟨a3, e3, r3⟩ := opens_int (k := .i64) Try.underlying3 t3
      injection e3 with e3 _
      subst e3
      obtain ⟨a4, e4, r4⟩ := opens_int (k := .i64) Try.underlying3 t4
      injection e4 with e4 _
      subst e4
      obtain ⟨a5, e5, r5⟩ := opens_int (k := .i64) Try.underlying3 t5
      injection e5 with e5 _
      subst e5
      obtain ⟨a6, e6, r6⟩ := opens_int (k := .i64) Try.underlying2 t6
      injection e6 with e6 _
      subst e6
      obtain ⟨a7, e7, r7⟩ := opens_int (k := .i64) Try.underlying2 t7
      injection e7 with e7 _
      subst e7
      obtain ⟨a8, e8, r8⟩ := opens_int (k := .i64) Try.underlying3 t8
      injection e8 with e8 _
      subst e8
      exact ⟨a0, a1, a2, a3, a4, a5, a6, a7, a8, rfl, r0, r1, r2, r3, r4, r5, r6, r7, r8⟩
set_option maxRecDepth 100000 in
theorem open_arg29 {H : Type} {enc : TypeId × Value → H} {w : World} {r : Reach} {b0 : Nat} {v : Value} {d : DataW H} {ps : List MemPlace} (hval : Value.okWide Try.prog w r b0 29 v) (hd : DataW.Trod enc Try.prog w 0 (fun _ => true) true 29 v d ps) :
    ∃ a0 a1 a2 a3 a4 a5 a6 a7 a8 : Int, v = .agg #[.int .i64 a0, .int .i64 a1, .int .i64 a2, .int .i64 a3, .int .i64 a4, .int .i64 a5, .int .i64 a6, .int .i64 a7, .int .i64 a8] ∧ (Lit.int .i64 a0).wf = true ∧ (Lit.int .i64 a1).wf = true ∧ (Lit.int .i64 a2).wf = true ∧ (Lit.int .i64 a3).wf = true ∧ (Lit.int .i64 a4).wf = true ∧ (Lit.int .i64 a5).wf = true ∧ (Lit.int .i64 a6).wf = true ∧ (Lit.int .i64 a7).wf = true ∧ (Lit.int .i64 a8).wf = true := by
  have hv := hval
  unfold Value.okWide at hv
  rw [Try.underlying29] at hv
  obtain ⟨cs, rfl, _, _⟩ := hv
  obtain ⟨fuel, hf⟩ := hd
  obtain ⟨a0, a1, a2, a3, a4, a5, a6, a7, a8, hc, hw⟩ := opened_29 hf
  refine ⟨a0, a1, a2, a3, a4, a5, a6, a7, a8, ?_, hw⟩
  have : cs = #[.int .i64 a0, .int .i64 a1, .int .i64 a2, .int .i64 a3, .int .i64 a4, .int .i64 a5, .int .i64 a6, .int .i64 a7, .int .i64 a8] := by
    apply Array.toList_inj.1
    exact hc
  rw [this]
set_option maxRecDepth 100000 in
theorem open_arg95 {H : Type} {enc : TypeId × Value → H} {w : World} {r : Reach} {b0 : Nat} {v : Value} {d : DataW H} {ps : List MemPlace} (hval : Value.okWide Try.prog w r b0 95 v) (hd : DataW.Trod enc Try.prog w 0 (fun _ => true) true 95 v d ps) :
    ∃ a0 a1 a2 a3 a4 a5 a6 a7 a8 : Int, v = .agg #[.int .i64 a0, .int .i64 a1, .int .i64 a2, .int .i64 a3, .int .i64 a4, .int .i64 a5, .int .i64 a6, .int .i64 a7, .int .i64 a8] ∧ (Lit.int .i64 a0).wf = true ∧ (Lit.int .i64 a1).wf = true ∧ (Lit.int .i64 a2).wf = true ∧ (Lit.int .i64 a3).wf = true ∧ (Lit.int .i64 a4).wf = true ∧ (Lit.int .i64 a5).wf = true ∧ (Lit.int .i64 a6).wf = true ∧ (Lit.int .i64 a7).wf = true ∧ (Lit.int .i64 a8).wf = true := by
  have hv := hval
  unfold Value.okWide at hv
  rw [Try.underlying95] at hv
  obtain ⟨cs, rfl, _, _⟩ := hv
  obtain ⟨fuel, hf⟩ := hd
  obtain ⟨a0, a1, a2, a3, a4, a5, a6, a7, a8, hc, hw⟩ := opened_95 hf
  refine ⟨a0, a1, a2, a3, a4, a5, a6, a7, a8, ?_, hw⟩
  have : cs = #[.int .i64 a0, .int .i64 a1, .int .i64 a2, .int .i64 a3, .int .i64 a4, .int .i64 a5, .int .i64 a6, .int .i64 a7, .int .i64 a8] := by
    apply Array.toList_inj.1
    exact hc
  rw [this]
theorem opens_msgs : Opens 22 (Kd.slice 29 k29) (fun xs => ∀ x ∈ xs, WF29 x) := opens_slice Try.underlying22 (by kernel_rfl) opens_29
theorem opens_parts : Opens 45 (Kd.slice 49 k49) (fun xs => ∀ x ∈ xs, WF49 x) := opens_slice Try.underlying45 (by kernel_rfl) opens_49
theorem opens_steps : Opens 54 (Kd.slice 91 k91) (fun xs => ∀ x ∈ xs, WF91 x) := opens_slice Try.underlying54 (by kernel_rfl) opens_91
theorem opens_rows : Opens 62 (Kd.slice 30 (Kd.slice 5 (Kd.int .u8))) (fun xs => ∀ x ∈ xs, ∀ y ∈ x, (Lit.int .u8 y).wf = true) := opens_slice Try.underlying62 (by kernel_rfl) opens_bytes
theorem opens_ints : Opens 61 (Kd.slice 3 (Kd.int .i64)) (fun xs => ∀ x ∈ xs, (Lit.int .i64 x).wf = true) := opens_slice Try.underlying61 (by kernel_rfl) (opens_int Try.underlying3)
-- A slice that is handed in.
set_option maxRecDepth 100000 in
theorem open_arg_slice {α : Type} {t e e' : TypeId} {K : Kd α} {R : α → Prop} (ht : Try.prog.underlying t = some (.slice e)) (ho : Opens t (Kd.slice e' K) (fun xs => ∀ x ∈ xs, R x))
    {H : Type} {enc : TypeId × Value → H} {w : World} {r : Reach} {b0 : Nat} {v : Value} {d : DataW H} {ps : List MemPlace} (hval : Value.okWide Try.prog w r b0 t v) (hd : DataW.Trod enc Try.prog w 0 (fun _ => true) true t v d ps) :
    ∃ (A : Option Addr) (c : Nat) (xs : List α), v = .slice A xs.length c ∧ xs.length ≤ c ∧ K.C w A xs.length xs ∧ (∀ x ∈ xs, R x) ∧ ∀ y ∈ ps, y.block < w.heap.size := by
  obtain ⟨A, l, c, rfl⟩ := okWide_slice ht hval
  have hlt : ∀ y ∈ ps, y.block < w.heap.size := by obtain ⟨m, hm⟩ := hd; exact DataW.trod_lt m _ _ _ hm
  obtain ⟨fuel, hf⟩ := hd
  obtain ⟨xs, ⟨A', c', hc, hl, hC⟩, hr⟩ := ho hf
  simp [Value.cells] at hc
  obtain ⟨rfl, rfl, rfl⟩ := hc
  exact ⟨_, _, xs, rfl, hl, hC, hr, hlt⟩
end Go.Proofs.Ytalpemoodollpaa.P
/- damperlaw03.got: what a reader reads. -/
namespace Go.Proofs.Ytalpemoodollpaa.P
open Go.RowKit Go.Proofs.YtalpemoodollpaaW.PrintWords Go.Proofs.YtalpemoodollpaaW.PrintLast Go.Proofs.YtalpemoodollpaaW.PrintMore
set_option linter.unusedVariables false
set_option linter.unusedSimpArgs false

theorem RPost.of_alloc {w w' : World} {g : Nat} {row : Option Nat} {s : List Int × Int} {o : Obj} (h : RPost (w.alloc o) g row s w') : RPost w g row s w' :=
  ⟨h.1, ((Fr.refl w (fun k => k = g)).alloc o).trans h.2 (fun _ _ h => h)⟩
theorem RPost.self {w : World} {g : Nat} {row : Option Nat} {s : List Int × Int} (h : RS w g row s) : RPost w g row s w := ⟨h, Fr.refl _ _⟩
/-- Raw, of any length asked. -/
theorem octets_Reader_Raw.any (g : Nat) (row : Option Nat) (s : List Int × Int) (n : Nat) (w : World) (hn : n ≤ 9223372036854775807) (hs : RS w g row s) (hl : s.1.length ≤ 140737488355328) :
    Calls Try.prog 105 #[.pointer (some ⟨g, 0, none⟩), .int .i64 (n : Int)] w fun e w' => ∃ v, e = .returned v ∧ Kd.R (Kd.int .u8) 5 w' w.heap.size (fun _ => True) v (rTake s n).1 ∧ RPost w g row (rTake s n).2.2 w' := by
  have HT := Aside0.mk (octets_Reader_take.calls g row s n w hn hs)
  have hl : (rTake s n).1.length ≤ 140737488355328 := by
    refine Nat.le_trans ?_ hl
    unfold rTake; split; simp; split; simp; simp only [List.length_take]; omega
  have HLT := Aside0.mk hl
  clear hs hl
  generalize rTake s n = T at *
  obtain ⟨xs, ok, st⟩ := T
  simp only at HLT HT ⊢
  have hn0 : 0 ≤ (n : Int) := by omega
  clear hn
  go_enter Try.func105, Try.ntmps105
  go_wp2_with fail
  refine HT.out.mono ?_
  rintro e w' ⟨A, c, rfl, hC, hlc, hY, hP⟩
  have HC := Aside0.mk hC
  have HP := Aside0.mk hP
  clear hC hY hP
  go_wp2_with fail
  refine (bytes_Clone.calls A c xs w' HC.out HLT.out).mono ?_
  rintro e w2 ⟨v, rfl, hR, hB⟩
  have HR := Aside0.mk hR
  have HB := Aside0.mk hB
  clear hR hB
  go_wp2
  go_ret
  have hP := HP.out
  refine ⟨v, rfl, Kd.R_lower HR.out hP.2.size, hP.1.fr (S := fun _ => False) (Fr.of_below HB.out _) (fun h => h) (fun _ _ h => h), hP.2.trans (Fr.of_below HB.out _) (fun _ _ h => h)⟩
/-- What a part reads: N, S, Raw, what is left. -/
def gotF (s : List Int × Int) (p : S49) : Int × Int × List Int × (List Int × Int) :=
  if p.f0 = 1 then ((rUint s p.f1).1, 0, [], (rUint s p.f1).2) else if p.f0 = 2 then (0, unzig (rUint s 8).1, [], (rUint s 8).2) else if p.f0 = 3 then ((rNum s).1, 0, [], (rNum s).2)
  else if p.f0 = 4 then (if p.f1 < 0 then (0, 0, [], s) else (0, 0, (rTake s p.f1.toNat).1, (rTake s p.f1.toNat).2.2)) else (0, 0, [], s)
/-- A box for what is read. -/
def Box5 (W : World) (b : Nat) (n s : Int) (v : Value) (z f : Int) : Prop := W.heap[b]? = some (.cells #[.int .u64 n, .int .i64 s, v, .int .i64 z, .int .i64 f] 81 (0, 0))
theorem Box5.cells {W : World} {b : Nat} {n s z f : Int} {v : Value} (h : Box5 W b n s v z f) : W.cell? ⟨b, 0, none⟩ = some (.int .u64 n) ∧ W.cell? ⟨b, 1, none⟩ = some (.int .i64 s) ∧ W.cell? ⟨b, 2, none⟩ = some v ∧ W.cell? ⟨b, 3, none⟩ = some (.int .i64 z) ∧ W.cell? ⟨b, 4, none⟩ = some (.int .i64 f) :=
  ⟨(blk_cell h 0).trans rfl, (blk_cell h 1).trans rfl, (blk_cell h 2).trans rfl, (blk_cell h 3).trans rfl, (blk_cell h 4).trans rfl⟩
theorem RS.lt {w : World} {g : Nat} {row : Option Nat} {s : List Int × Int} (h : RS w g row s) : g < w.heap.size := by
  obtain ⟨A, c, hb, _⟩ := h
  exact blk_lt hb
theorem RS.far {W : World} {g : Nat} {row : Option Nat} {st : List Int × Int} {b j : Nat} (h : RS W g row st) (hg : b ≠ g) (hr : row ≠ some b) (u : Value) : RS (W.setCell ⟨b, j, none⟩ u) g row st :=
  h.fr ((Fr.refl W (fun k => k = b)).setCell ⟨b, j, none⟩ u (fun _ => rfl)) (fun e => hg e.symm) (fun k hk e => hr (by rw [hk, e]))
theorem RS.far5 {W : World} {g : Nat} {row : Option Nat} {st : List Int × Int} {b : Nat} (h : RS W g row st) (hg : b ≠ g) (hr : row ≠ some b) (n s z f : Int) (v : Value) : RS (((((W.setCell ⟨b, 0, none⟩ (.int .u64 n)).setCell ⟨b, 1, none⟩ (.int .i64 s)).setCell ⟨b, 2, none⟩ v).setCell ⟨b, 3, none⟩ (.int .i64 z)).setCell ⟨b, 4, none⟩ (.int .i64 f)) g row st := (((((h.far hg hr (b := b) (j := 0) (.int .u64 n)).far hg hr (b := b) (j := 1) (.int .i64 s)).far hg hr (b := b) (j := 2) v).far hg hr (b := b) (j := 3) (.int .i64 z)).far hg hr (b := b) (j := 4) (.int .i64 f))
theorem Fr.far5 {w W : World} {S : Nat → Prop} {b : Nat} (h : Fr w W S) (hb : w.heap.size ≤ b) (n s z f : Int) (v : Value) : Fr w (((((W.setCell ⟨b, 0, none⟩ (.int .u64 n)).setCell ⟨b, 1, none⟩ (.int .i64 s)).setCell ⟨b, 2, none⟩ v).setCell ⟨b, 3, none⟩ (.int .i64 z)).setCell ⟨b, 4, none⟩ (.int .i64 f)) S := (Fr.setCell (Fr.setCell (Fr.setCell (Fr.setCell (Fr.setCell h ⟨b, 0, none⟩ (.int .u64 n) (fun hlt => absurd hlt (by show ¬ b < _; omega))) ⟨b, 1, none⟩ (.int .i64 s) (fun hlt => absurd hlt (by show ¬ b < _; omega))) ⟨b, 2, none⟩ v (fun hlt => absurd hlt (by show ¬ b < _; omega))) ⟨b, 3, none⟩ (.int .i64 z) (fun hlt => absurd hlt (by show ¬ b < _; omega))) ⟨b, 4, none⟩ (.int .i64 f) (fun hlt => absurd hlt (by show ¬ b < _; omega)))
theorem Box5.set5 {W : World} {b : Nat} {n0 s0 z0 f0 : Int} {v0 : Value} (h : Box5 W b n0 s0 v0 z0 f0) (n s z f : Int) (v : Value) : Box5 (((((W.setCell ⟨b, 0, none⟩ (.int .u64 n)).setCell ⟨b, 1, none⟩ (.int .i64 s)).setCell ⟨b, 2, none⟩ v).setCell ⟨b, 3, none⟩ (.int .i64 z)).setCell ⟨b, 4, none⟩ (.int .i64 f)) b n s v z f := (blk_set (blk_set (blk_set (blk_set (blk_set h 0 (.int .u64 n)) 1 (.int .i64 s)) 2 v) 3 (.int .i64 z)) 4 (.int .i64 f)).trans (by simp)
theorem RPost.far5 {w W : World} {g : Nat} {row : Option Nat} {st : List Int × Int} {b : Nat} (h : RPost w g row st W) (hb : w.heap.size ≤ b) (hg : g < w.heap.size) (hr : ∀ k, row = some k → k < w.heap.size) (n s z f : Int) (v : Value) : RPost w g row st (((((W.setCell ⟨b, 0, none⟩ (.int .u64 n)).setCell ⟨b, 1, none⟩ (.int .i64 s)).setCell ⟨b, 2, none⟩ v).setCell ⟨b, 3, none⟩ (.int .i64 z)).setCell ⟨b, 4, none⟩ (.int .i64 f)) :=
  ⟨h.1.far5 (by omega) (fun e => by have := hr b e; omega) n s z f v, h.2.far5 hb n s z f v⟩
theorem own_slice {A : Option Addr} {n c k : Nat} (h : A.map (·.block) = some k) : (Value.slice A n c).ownBlock = some k := by
  cases A with
  | none => cases h
  | some a => exact h
theorem C_far5 {W : World} {A : Option Addr} {xs : List Int} {b : Nat} (h : Kd.C (Kd.int .u8) W A xs.length xs) (hb : ∀ k, A.map (·.block) = some k → k ≠ b) (n s z f : Int) (v : Value) : Kd.C (Kd.int .u8) (((((W.setCell ⟨b, 0, none⟩ (.int .u64 n)).setCell ⟨b, 1, none⟩ (.int .i64 s)).setCell ⟨b, 2, none⟩ v).setCell ⟨b, 3, none⟩ (.int .i64 z)).setCell ⟨b, 4, none⟩ (.int .i64 f)) A xs.length xs :=
  Fr.C (S := fun k => k = b) (Fr.setCell (Fr.setCell (Fr.setCell (Fr.setCell (Fr.setCell (Fr.refl W (fun k => k = b)) ⟨b, 0, none⟩ (.int .u64 n) (fun _ => rfl)) ⟨b, 1, none⟩ (.int .i64 s) (fun _ => rfl)) ⟨b, 2, none⟩ v (fun _ => rfl)) ⟨b, 3, none⟩ (.int .i64 z) (fun _ => rfl)) ⟨b, 4, none⟩ (.int .i64 f) (fun _ => rfl)) h (fun k hk e => hb k hk e)
theorem octets_NewReader.calls2 (A : Option Addr) (c : Nat) (bs : List Int) (w : World) (hr : Kd.C (Kd.int .u8) w A bs.length bs) (hl : bs.length ≤ 140737488355328) (hb : Byt bs) :
    Calls Try.prog 60 #[.slice A bs.length c] w fun e w' => ∃ g row, e = .returned (.pointer (some ⟨g, 0, none⟩)) ∧ RS w' g row (bs, 0) ∧ Below w.heap.size w w' ∧ w.heap.size ≤ g ∧ g < w'.heap.size ∧ ∀ k, row = some k → w.heap.size ≤ k ∧ k < w'.heap.size := by
  have HR := Aside0.mk hr
  have HY := Aside0.mk hb
  clear hr hb
  go_enter Try.func60, Try.ntmps60
  go_wp2_with fail
  refine (bytes_Clone.calls A c bs w HR.out hl).mono ?_
  rintro e w' ⟨v0, rfl, hR, hB⟩
  obtain ⟨A1, c1, rfl, hlc, hC⟩ := Kd.R_reads hR
  have hbase := Kd.R_bound hR
  have HC := Aside0.mk hC
  have HB := Aside0.mk hB
  have HBASE := Aside0.mk hbase.1
  clear hR hC hB hbase
  go_wp2
  go_ret
  refine ⟨w'.heap.size, _, rfl, ⟨A1, c1, ?_, hlc, Kd.C_below HC.out (below_alloc (Below.refl _ _) _), rfl, ?_, HY.out⟩, below_alloc HB.out _, HB.out.size, ?_, ?_⟩
  · exact blk_new w' _
  · intro e
    have := HBASE.out w'.heap.size (by cases A1 <;> simp_all [Value.ownBlock])
    omega
  · simp
  · intro k hk
    have := HBASE.out k (by cases A1 <;> simp_all [Value.ownBlock])
    refine ⟨this.2.1, ?_⟩
    rw [World.size_alloc]
    have := this.2.2.1
    omega
set_option maxRecDepth 100000 in
set_option maxHeartbeats 4000000 in
theorem law03_got_calls (g : Nat) (row : Option Nat) (s : List Int × Int) (p : S49) (A : Option Addr) (c : Nat) (w : World) (hs : RS w g row s) (hrow : ∀ k, row = some k → k < w.heap.size) (hw : WF49 p) (hl : s.1.length ≤ 140737488355328) :
    Calls Try.prog 62 #[.pointer (some ⟨g, 0, none⟩), .agg #[.int .i64 p.f0, .int .i64 p.f1, .int .u64 p.f2, .int .i64 p.f3, .slice A p.f4.length c]] w fun e w' =>
      ∃ B m, e = .returned (.agg #[.int .u64 (gotF s p).1, .int .i64 (gotF s p).2.1, .slice B (gotF s p).2.2.1.length m, .int .i64 0, .int .i64 0]) ∧ (gotF s p).2.2.1.length ≤ m ∧ Kd.C (Kd.int .u8) w' B (gotF s p).2.2.1.length (gotF s p).2.2.1 ∧ RPost w g row (gotF s p).2.2.2 w' := by
  have hf1 := Go.Proofs.Ytalpemoodollpaa.row.wf_i64 hw.2.1
  obtain ⟨f0, f1, f2, f3, f4⟩ := p
  generalize hG : gotF s ⟨f0, f1, f2, f3, f4⟩ = G
  unfold gotF at hG
  dsimp only at *
  clear hw
  have hg := hs.lt
  have HGL := Aside0.mk hg
  have HROW := Aside0.mk hrow
  clear hg hrow
  by_cases h1 : f0 = 1
  · rw [if_pos h1] at hG
    subst h1
    have HX := Aside0.mk (octets_Reader_Uint.calls g row s f1 ((w.alloc (.cells #[.int .i64 1, .int .i64 f1, .int .u64 f2, .int .i64 f3, .slice A f4.length c] 49)).alloc (.cells #[.int .u64 0, .int .i64 0, .slice none 0 0, .int .i64 0, .int .i64 0] 81)) ((hs.below (below_alloc (Below.refl _ _) _)).below (below_alloc (Below.refl _ _) _)))
    have HB := Aside0.mk (show Box5 ((w.alloc (.cells #[.int .i64 1, .int .i64 f1, .int .u64 f2, .int .i64 f3, .slice A f4.length c] 49)).alloc (.cells #[.int .u64 0, .int .i64 0, .slice none 0 0, .int .i64 0, .int .i64 0] 81)) (w.heap.size + 1) 0 0 (.slice none 0 0) 0 0 from by
      have := blk_new (w.alloc (.cells #[.int .i64 1, .int .i64 f1, .int .u64 f2, .int .i64 f3, .slice A f4.length c] 49)) (.cells #[.int .u64 0, .int .i64 0, .slice none 0 0, .int .i64 0, .int .i64 0] 81)
      rw [World.size_alloc] at this
      exact this)
    generalize rUint s f1 = T at *
    obtain ⟨tn, ts⟩ := T
    have HG := Aside0.mk hG
    clear hG hs hl hf1
    go_enter Try.func62, Try.ntmps62
    go_wp2_with fail
    refine HX.out.mono ?_
    rintro e w1 ⟨rfl, hp⟩
    have HP := Aside0.mk hp
    have HB1 : Aside0 (Box5 w1 (w.heap.size + 1) 0 0 (.slice none 0 0) 0 0) := ⟨hp.2.blk HB.out (fun hS => by have := HGL.out; omega)⟩
    have HB2 := Aside0.mk (HB1.out.set5 tn 0 0 0 (.slice none 0 0))
    have HP2 := Aside0.mk (HP.out.of_alloc.of_alloc.far5 (b := w.heap.size + 1) (by omega) HGL.out HROW.out tn 0 0 0 (.slice none 0 0))
    clear hp
    obtain ⟨d0, d1, d2, d3, d4⟩ := HB1.out.cells
    have y0 := blk_frozen HB1.out 0
    have y1 := blk_frozen HB1.out 1
    have y2 := blk_frozen HB1.out 2
    have y3 := blk_frozen HB1.out 3
    have y4 := blk_frozen HB1.out 4
    go_wp2
    refine bodyPost_ret (results_cell_row (fn := Try.f62) (p := 4) (ty := 81) rfl _ _ (w.heap.size + 1) 81 #[.int .u64 tn, .int .i64 0, (.slice none 0 0), .int .i64 0, .int .i64 0] (0, 0) _ rfl HB2.out Try.underlying81 rfl (by kernel_rfl)) rfl ?_
    obtain rfl := HG.out
    exact ⟨none, 0, rfl, Nat.le_refl _, Kd.C_nil _ _, HP2.out⟩
  · by_cases h2 : f0 = 2
    · rw [if_neg h1, if_pos h2] at hG
      clear h1
      subst h2
      have HX := Aside0.mk (octets_Reader_Int.calls g row s ((w.alloc (.cells #[.int .i64 2, .int .i64 f1, .int .u64 f2, .int .i64 f3, .slice A f4.length c] 49)).alloc (.cells #[.int .u64 0, .int .i64 0, .slice none 0 0, .int .i64 0, .int .i64 0] 81)) ((hs.below (below_alloc (Below.refl _ _) _)).below (below_alloc (Below.refl _ _) _)))
      have HB := Aside0.mk (show Box5 ((w.alloc (.cells #[.int .i64 2, .int .i64 f1, .int .u64 f2, .int .i64 f3, .slice A f4.length c] 49)).alloc (.cells #[.int .u64 0, .int .i64 0, .slice none 0 0, .int .i64 0, .int .i64 0] 81)) (w.heap.size + 1) 0 0 (.slice none 0 0) 0 0 from by
        have := blk_new (w.alloc (.cells #[.int .i64 2, .int .i64 f1, .int .u64 f2, .int .i64 f3, .slice A f4.length c] 49)) (.cells #[.int .u64 0, .int .i64 0, .slice none 0 0, .int .i64 0, .int .i64 0] 81)
        rw [World.size_alloc] at this
        exact this)
      generalize rUint s 8 = T at *
      obtain ⟨tn, ts⟩ := T
      have HG := Aside0.mk hG
      clear hG hs hl hf1
      go_enter Try.func62, Try.ntmps62
      go_wp2_with fail
      refine HX.out.mono ?_
      rintro e w1 ⟨rfl, hp⟩
      have HP := Aside0.mk hp
      have HB1 : Aside0 (Box5 w1 (w.heap.size + 1) 0 0 (.slice none 0 0) 0 0) := ⟨hp.2.blk HB.out (fun hS => by have := HGL.out; omega)⟩
      have HB2 := Aside0.mk (HB1.out.set5 0 (unzig tn) 0 0 (.slice none 0 0))
      have HP2 := Aside0.mk (HP.out.of_alloc.of_alloc.far5 (b := w.heap.size + 1) (by omega) HGL.out HROW.out 0 (unzig tn) 0 0 (.slice none 0 0))
      clear hp
      obtain ⟨d0, d1, d2, d3, d4⟩ := HB1.out.cells
      have y0 := blk_frozen HB1.out 0
      have y1 := blk_frozen HB1.out 1
      have y2 := blk_frozen HB1.out 2
      have y3 := blk_frozen HB1.out 3
      have y4 := blk_frozen HB1.out 4
      go_wp2
      refine bodyPost_ret (results_cell_row (fn := Try.f62) (p := 4) (ty := 81) rfl _ _ (w.heap.size + 1) 81 #[.int .u64 0, .int .i64 (unzig tn), (.slice none 0 0), .int .i64 0, .int .i64 0] (0, 0) _ rfl HB2.out Try.underlying81 rfl (by kernel_rfl)) rfl ?_
      obtain rfl := HG.out
      exact ⟨none, 0, rfl, Nat.le_refl _, Kd.C_nil _ _, HP2.out⟩
    · by_cases h3 : f0 = 3
      · rw [if_neg h1, if_neg h2, if_pos h3] at hG
        clear h1 h2
        subst h3
        have HX := Aside0.mk (octets_Reader_Num.calls g row s ((w.alloc (.cells #[.int .i64 3, .int .i64 f1, .int .u64 f2, .int .i64 f3, .slice A f4.length c] 49)).alloc (.cells #[.int .u64 0, .int .i64 0, .slice none 0 0, .int .i64 0, .int .i64 0] 81)) ((hs.below (below_alloc (Below.refl _ _) _)).below (below_alloc (Below.refl _ _) _)))
        have HB := Aside0.mk (show Box5 ((w.alloc (.cells #[.int .i64 3, .int .i64 f1, .int .u64 f2, .int .i64 f3, .slice A f4.length c] 49)).alloc (.cells #[.int .u64 0, .int .i64 0, .slice none 0 0, .int .i64 0, .int .i64 0] 81)) (w.heap.size + 1) 0 0 (.slice none 0 0) 0 0 from by
          have := blk_new (w.alloc (.cells #[.int .i64 3, .int .i64 f1, .int .u64 f2, .int .i64 f3, .slice A f4.length c] 49)) (.cells #[.int .u64 0, .int .i64 0, .slice none 0 0, .int .i64 0, .int .i64 0] 81)
          rw [World.size_alloc] at this
          exact this)
        generalize rNum s = T at *
        obtain ⟨tn, ts⟩ := T
        have HG := Aside0.mk hG
        clear hG hs hl hf1
        go_enter Try.func62, Try.ntmps62
        go_wp2_with fail
        refine HX.out.mono ?_
        rintro e w1 ⟨rfl, hp⟩
        have HP := Aside0.mk hp
        have HB1 : Aside0 (Box5 w1 (w.heap.size + 1) 0 0 (.slice none 0 0) 0 0) := ⟨hp.2.blk HB.out (fun hS => by have := HGL.out; omega)⟩
        have HB2 := Aside0.mk (HB1.out.set5 tn 0 0 0 (.slice none 0 0))
        have HP2 := Aside0.mk (HP.out.of_alloc.of_alloc.far5 (b := w.heap.size + 1) (by omega) HGL.out HROW.out tn 0 0 0 (.slice none 0 0))
        clear hp
        obtain ⟨d0, d1, d2, d3, d4⟩ := HB1.out.cells
        have y0 := blk_frozen HB1.out 0
        have y1 := blk_frozen HB1.out 1
        have y2 := blk_frozen HB1.out 2
        have y3 := blk_frozen HB1.out 3
        have y4 := blk_frozen HB1.out 4
        go_wp2
        refine bodyPost_ret (results_cell_row (fn := Try.f62) (p := 4) (ty := 81) rfl _ _ (w.heap.size + 1) 81 #[.int .u64 tn, .int .i64 0, (.slice none 0 0), .int .i64 0, .int .i64 0] (0, 0) _ rfl HB2.out Try.underlying81 rfl (by kernel_rfl)) rfl ?_
        obtain rfl := HG.out
        exact ⟨none, 0, rfl, Nat.le_refl _, Kd.C_nil _ _, HP2.out⟩
      · by_cases h4 : f0 = 4
        · rw [if_neg h1, if_neg h2, if_neg h3, if_pos h4] at hG
          clear h1 h2 h3
          subst h4
          by_cases hneg : f1 < 0
          · rw [if_pos hneg] at hG
            have HX := Aside0.mk (octets_Reader_Raw.neg g f1 ((w.alloc (.cells #[.int .i64 4, .int .i64 f1, .int .u64 f2, .int .i64 f3, .slice A f4.length c] 49)).alloc (.cells #[.int .u64 0, .int .i64 0, .slice none 0 0, .int .i64 0, .int .i64 0] 81)) hneg)
            have HRS := Aside0.mk (show RPost ((w.alloc (.cells #[.int .i64 4, .int .i64 f1, .int .u64 f2, .int .i64 f3, .slice A f4.length c] 49)).alloc (.cells #[.int .u64 0, .int .i64 0, .slice none 0 0, .int .i64 0, .int .i64 0] 81)) g row s ((w.alloc (.cells #[.int .i64 4, .int .i64 f1, .int .u64 f2, .int .i64 f3, .slice A f4.length c] 49)).alloc (.cells #[.int .u64 0, .int .i64 0, .slice none 0 0, .int .i64 0, .int .i64 0] 81)) from RPost.self ((hs.below (below_alloc (Below.refl _ _) _)).below (below_alloc (Below.refl _ _) _)))
            have HB := Aside0.mk (show Box5 ((w.alloc (.cells #[.int .i64 4, .int .i64 f1, .int .u64 f2, .int .i64 f3, .slice A f4.length c] 49)).alloc (.cells #[.int .u64 0, .int .i64 0, .slice none 0 0, .int .i64 0, .int .i64 0] 81)) (w.heap.size + 1) 0 0 (.slice none 0 0) 0 0 from by
              have := blk_new (w.alloc (.cells #[.int .i64 4, .int .i64 f1, .int .u64 f2, .int .i64 f3, .slice A f4.length c] 49)) (.cells #[.int .u64 0, .int .i64 0, .slice none 0 0, .int .i64 0, .int .i64 0] 81)
              rw [World.size_alloc] at this
              exact this)
            have HG := Aside0.mk hG
            clear hG hs hl hf1 hneg
            go_enter Try.func62, Try.ntmps62
            go_wp2_with fail
            refine HX.out.mono ?_
            rintro e w1 ⟨rfl, rfl⟩
            have HB1 := HB
            have HB2 := HB
            have HP2 := Aside0.mk (HRS.out.of_alloc.of_alloc)
            obtain ⟨d0, d1, d2, d3, d4⟩ := HB1.out.cells
            have y0 := blk_frozen HB1.out 0
            have y1 := blk_frozen HB1.out 1
            have y2 := blk_frozen HB1.out 2
            have y3 := blk_frozen HB1.out 3
            have y4 := blk_frozen HB1.out 4
            go_wp2
            refine bodyPost_ret (results_cell_row (fn := Try.f62) (p := 4) (ty := 81) rfl _ _ (w.heap.size + 1) 81 #[.int .u64 0, .int .i64 0, (.slice none 0 0), .int .i64 0, .int .i64 0] (0, 0) _ rfl HB2.out Try.underlying81 rfl (by kernel_rfl)) rfl ?_
            obtain rfl := HG.out
            exact ⟨none, 0, rfl, Nat.le_refl _, Kd.C_nil _ _, HP2.out⟩
          · rw [if_neg hneg] at hG
            obtain ⟨m, rfl⟩ := Int.eq_ofNat_of_zero_le (show 0 ≤ f1 by omega)
            rw [Int.toNat_natCast] at hG
            have HX := Aside0.mk (octets_Reader_Raw.any g row s m ((w.alloc (.cells #[.int .i64 4, .int .i64 (m : Int), .int .u64 f2, .int .i64 f3, .slice A f4.length c] 49)).alloc (.cells #[.int .u64 0, .int .i64 0, .slice none 0 0, .int .i64 0, .int .i64 0] 81)) (by omega) ((hs.below (below_alloc (Below.refl _ _) _)).below (below_alloc (Below.refl _ _) _)) hl)
            have HB := Aside0.mk (show Box5 ((w.alloc (.cells #[.int .i64 4, .int .i64 (m : Int), .int .u64 f2, .int .i64 f3, .slice A f4.length c] 49)).alloc (.cells #[.int .u64 0, .int .i64 0, .slice none 0 0, .int .i64 0, .int .i64 0] 81)) (w.heap.size + 1) 0 0 (.slice none 0 0) 0 0 from by
              have := blk_new (w.alloc (.cells #[.int .i64 4, .int .i64 (m : Int), .int .u64 f2, .int .i64 f3, .slice A f4.length c] 49)) (.cells #[.int .u64 0, .int .i64 0, .slice none 0 0, .int .i64 0, .int .i64 0] 81)
              rw [World.size_alloc] at this
              exact this)
            generalize rTake s m = T at *
            obtain ⟨ts, tok, tst⟩ := T
            have HG := Aside0.mk hG
            clear hG hs hl hf1 hneg
            go_enter Try.func62, Try.ntmps62
            go_wp2_with fail
            refine HX.out.mono ?_
            rintro e w1 ⟨v, rfl, hR, hp⟩
            obtain ⟨B, mm, rfl, hq, hC⟩ := Kd.R_reads hR
            have hbnd := (Kd.R_bound hR).1
            have HC := Aside0.mk hC
            have HQ := Aside0.mk hq
            have HBND := Aside0.mk hbnd
            have HP0 := Aside0.mk hp
            clear hR hC hq hbnd hp
            have HB1 : Aside0 (Box5 w1 (w.heap.size + 1) 0 0 (.slice none 0 0) 0 0) := ⟨HP0.out.2.blk HB.out (fun hS => by have := HGL.out; omega)⟩
            have HB2 := Aside0.mk (HB1.out.set5 0 0 0 0 (.slice B ts.length mm))
            have HP2 := Aside0.mk (HP0.out.of_alloc.of_alloc.far5 (b := w.heap.size + 1) (by omega) HGL.out HROW.out 0 0 0 0 (.slice B ts.length mm))
            have HC2 := Aside0.mk (C_far5 HC.out (b := w.heap.size + 1) (fun k hk e => by have := (HBND.out k (own_slice hk)).2.1; simp only [World.size_alloc] at this; omega) 0 0 0 0 (.slice B ts.length mm))
            obtain ⟨d0, d1, d2, d3, d4⟩ := HB1.out.cells
            have y0 := blk_frozen HB1.out 0
            have y1 := blk_frozen HB1.out 1
            have y2 := blk_frozen HB1.out 2
            have y3 := blk_frozen HB1.out 3
            have y4 := blk_frozen HB1.out 4
            go_wp2
            refine bodyPost_ret (results_cell_row (fn := Try.f62) (p := 4) (ty := 81) rfl _ _ (w.heap.size + 1) 81 #[.int .u64 0, .int .i64 0, (.slice B ts.length mm), .int .i64 0, .int .i64 0] (0, 0) _ rfl HB2.out Try.underlying81 rfl (by kernel_rfl)) rfl ?_
            obtain rfl := HG.out
            exact ⟨B, mm, rfl, HQ.out, HC2.out, HP2.out⟩
        · rw [if_neg h1, if_neg h2, if_neg h3, if_neg h4] at hG
          have HRS := Aside0.mk (show RPost ((w.alloc (.cells #[.int .i64 f0, .int .i64 f1, .int .u64 f2, .int .i64 f3, .slice A f4.length c] 49)).alloc (.cells #[.int .u64 0, .int .i64 0, .slice none 0 0, .int .i64 0, .int .i64 0] 81)) g row s ((w.alloc (.cells #[.int .i64 f0, .int .i64 f1, .int .u64 f2, .int .i64 f3, .slice A f4.length c] 49)).alloc (.cells #[.int .u64 0, .int .i64 0, .slice none 0 0, .int .i64 0, .int .i64 0] 81)) from RPost.self ((hs.below (below_alloc (Below.refl _ _) _)).below (below_alloc (Below.refl _ _) _)))
          have HB := Aside0.mk (show Box5 ((w.alloc (.cells #[.int .i64 f0, .int .i64 f1, .int .u64 f2, .int .i64 f3, .slice A f4.length c] 49)).alloc (.cells #[.int .u64 0, .int .i64 0, .slice none 0 0, .int .i64 0, .int .i64 0] 81)) (w.heap.size + 1) 0 0 (.slice none 0 0) 0 0 from by
            have := blk_new (w.alloc (.cells #[.int .i64 f0, .int .i64 f1, .int .u64 f2, .int .i64 f3, .slice A f4.length c] 49)) (.cells #[.int .u64 0, .int .i64 0, .slice none 0 0, .int .i64 0, .int .i64 0] 81)
            rw [World.size_alloc] at this
            exact this)
          have HG := Aside0.mk hG
          clear hG hs hl hf1
          have HB2 := HB
          have HP2 := Aside0.mk (HRS.out.of_alloc.of_alloc)
          obtain ⟨d0, d1, d2, d3, d4⟩ := HB.out.cells
          have y0 := blk_frozen HB.out 0
          have y1 := blk_frozen HB.out 1
          have y2 := blk_frozen HB.out 2
          have y3 := blk_frozen HB.out 3
          have y4 := blk_frozen HB.out 4
          go_enter Try.func62, Try.ntmps62
          go_wp2
          refine bodyPost_ret (results_cell_row (fn := Try.f62) (p := 4) (ty := 81) rfl _ _ (w.heap.size + 1) 81 #[.int .u64 0, .int .i64 0, (.slice none 0 0), .int .i64 0, .int .i64 0] (0, 0) _ rfl HB2.out Try.underlying81 rfl (by kernel_rfl)) rfl ?_
          obtain rfl := HG.out
          exact ⟨none, 0, rfl, Nat.le_refl _, Kd.C_nil _ _, HP2.out⟩
end Go.Proofs.Ytalpemoodollpaa.P
/- A box of nine numbers. -/
namespace Go.Proofs.Ytalpemoodollpaa.P
open Go.RowKit Go.Proofs.YtalpemoodollpaaW.PrintWords Go.Proofs.YtalpemoodollpaaW.PrintLast Go.Proofs.YtalpemoodollpaaW.PrintMore
set_option linter.unusedVariables false
set_option linter.unusedSimpArgs false

/-- A box of nine numbers at block b. -/
def Box9 (W : World) (t : Nat) (b : Nat) (x0 x1 x2 x3 x4 x5 x6 x7 x8 : Int) : Prop :=
  W.heap[b]? = some (.cells #[.int .i64 x0, .int .i64 x1, .int .i64 x2, .int .i64 x3, .int .i64 x4, .int .i64 x5, .int .i64 x6, .int .i64 x7, .int .i64 x8] t (0, 0))
theorem Box9.cells {W : World} {t b : Nat} {x0 x1 x2 x3 x4 x5 x6 x7 x8 : Int} (h : Box9 W t b x0 x1 x2 x3 x4 x5 x6 x7 x8) :
    W.cell? ⟨b, 0, none⟩ = some (.int .i64 x0) ∧ W.cell? ⟨b, 1, none⟩ = some (.int .i64 x1) ∧ W.cell? ⟨b, 2, none⟩ = some (.int .i64 x2) ∧ W.cell? ⟨b, 3, none⟩ = some (.int .i64 x3) ∧ W.cell? ⟨b, 4, none⟩ = some (.int .i64 x4) ∧
    W.cell? ⟨b, 5, none⟩ = some (.int .i64 x5) ∧ W.cell? ⟨b, 6, none⟩ = some (.int .i64 x6) ∧ W.cell? ⟨b, 7, none⟩ = some (.int .i64 x7) ∧ W.cell? ⟨b, 8, none⟩ = some (.int .i64 x8) :=
  ⟨(blk_cell h 0).trans rfl, (blk_cell h 1).trans rfl, (blk_cell h 2).trans rfl, (blk_cell h 3).trans rfl, (blk_cell h 4).trans rfl, (blk_cell h 5).trans rfl, (blk_cell h 6).trans rfl, (blk_cell h 7).trans rfl, (blk_cell h 8).trans rfl⟩

end Go.Proofs.Ytalpemoodollpaa.P
/- A reader of one's own, call by call. -/
namespace Go.Proofs.Ytalpemoodollpaa.P
open Go.RowKit Go.Proofs.YtalpemoodollpaaW.PrintWords Go.Proofs.YtalpemoodollpaaW.PrintLast Go.Proofs.YtalpemoodollpaaW.PrintMore
set_option linter.unusedVariables false
set_option linter.unusedSimpArgs false
/-- All blocks but g stay. -/
def KeepG (W W1 : World) (g : Nat) : Prop := ∀ (k : Nat) (o : Obj), W.heap[k]? = some o → k ≠ g → W1.heap[k]? = some o
/-- A reader at g, whose block and row lie at lo or behind; below the first world's end all is as it was. -/
structure RK (w0 W : World) (lo g : Nat) (s : List Int × Int) : Prop where
  ex : ∃ row, RS W g row s ∧ ∀ k, row = some k → lo ≤ k
  bel : Below w0.heap.size w0 W
  hlo : w0.heap.size ≤ lo
  hg : lo ≤ g
namespace RK
variable {w0 W W1 : World} {lo g : Nat} {s s1 : List Int × Int}
theorem of_post {row : Option Nat} (hr : ∀ k, row = some k → lo ≤ k) (hB : Below w0.heap.size w0 W) (hlo : w0.heap.size ≤ lo) (hg : lo ≤ g) (hp : RPost W g row s1 W1) : RK w0 W1 lo g s1 ∧ KeepG W W1 g :=
  ⟨⟨⟨row, hp.1, hr⟩, hB.trans (hp.2.below hB.size (fun k hk => by rw [hk]; omega)), hlo, hg⟩, fun k o h hne => hp.2.blk h hne⟩
theorem below (h : RK w0 W lo g s) (hb : Below W.heap.size W W1) : RK w0 W1 lo g s := by
  obtain ⟨⟨row, hs, hr⟩, hB, hlo, hg⟩ := h
  exact ⟨⟨row, hs.below hb, hr⟩, below_then hB hB.size hb, hlo, hg⟩
theorem alloc (h : RK w0 W lo g s) (o : Obj) : RK w0 (W.alloc o) lo g s := h.below (below_alloc (Below.refl _ _) _)
theorem set (h : RK w0 W lo g s) {b j : Nat} (h0 : w0.heap.size ≤ b) (hb : b < lo) (u : Value) : RK w0 (W.setCell ⟨b, j, none⟩ u) lo g s := by
  obtain ⟨⟨row, hs, hr⟩, hB, hlo, hg⟩ := h
  exact ⟨⟨row, hs.far (by omega) (fun e => by have := hr b e; omega) u, hr⟩, hB.setCell (p := ⟨b, j, none⟩) h0 u, hlo, hg⟩
theorem drewN (h : RK w0 W lo g s) (n : Nat) : RK w0 (W.drewN n) lo g s := h.below (pw_below_drewN (Below.refl _ _) n)
theorem bound (h : RK w0 W lo g s) : s.1.length ≤ 9223372036854775807 := by
  obtain ⟨⟨row, ⟨A, c, _, _, hC, _⟩, _⟩, _⟩ := h
  exact C_bound hC
theorem byt (h : RK w0 W lo g s) : Byt s.1 := by
  obtain ⟨⟨row, ⟨A, c, _, _, _, _, _, hb⟩, _⟩, _⟩ := h
  exact hb
theorem lt (h : RK w0 W lo g s) : g < W.heap.size := by
  obtain ⟨⟨row, hs, _⟩, _⟩ := h
  exact hs.lt
theorem uint (h : RK w0 W lo g s) (k : Int) :
    Calls Try.prog 104 #[.pointer (some ⟨g, 0, none⟩), .int .i64 k] W fun e w' => e = .returned (.int .u64 (rUint s k).1) ∧ RK w0 w' lo g (rUint s k).2 ∧ KeepG W w' g := by
  obtain ⟨⟨row, hs, hr⟩, hB, hlo, hg⟩ := h
  exact (octets_Reader_Uint.calls g row s k W hs).mono fun e w' ⟨he, hp⟩ => ⟨he, of_post hr hB hlo hg hp⟩
theorem int (h : RK w0 W lo g s) :
    Calls Try.prog 117 #[.pointer (some ⟨g, 0, none⟩)] W fun e w' => e = .returned (.int .i64 (unzig (rUint s 8).1)) ∧ RK w0 w' lo g (rUint s 8).2 ∧ KeepG W w' g := by
  obtain ⟨⟨row, hs, hr⟩, hB, hlo, hg⟩ := h
  exact (octets_Reader_Int.calls g row s W hs).mono fun e w' ⟨he, hp⟩ => ⟨he, of_post hr hB hlo hg hp⟩
theorem num (h : RK w0 W lo g s) :
    Calls Try.prog 100 #[.pointer (some ⟨g, 0, none⟩)] W fun e w' => e = .returned (.int .u64 (rNum s).1) ∧ RK w0 w' lo g (rNum s).2 ∧ KeepG W w' g := by
  obtain ⟨⟨row, hs, hr⟩, hB, hlo, hg⟩ := h
  exact (octets_Reader_Num.calls g row s W hs).mono fun e w' ⟨he, hp⟩ => ⟨he, of_post hr hB hlo hg hp⟩
theorem fault (h : RK w0 W lo g s) : Calls Try.prog 63 #[.pointer (some ⟨g, 0, none⟩)] W fun e w' => e = .returned (.int .i64 s.2) ∧ W = w' := by
  obtain ⟨⟨row, hs, hr⟩, hB, hlo, hg⟩ := h
  exact octets_Reader_Fault.calls g row s W hs
theorem left (h : RK w0 W lo g s) : Calls Try.prog 64 #[.pointer (some ⟨g, 0, none⟩)] W fun e w' => e = .returned (.int .i64 s.1.length) ∧ W = w' := by
  obtain ⟨⟨row, hs, hr⟩, hB, hlo, hg⟩ := h
  exact octets_Reader_Left.calls g row s W hs
/-- A new one. -/
theorem new (A : Option Addr) (c : Nat) (bs : List Int) (hB : Below w0.heap.size w0 W) (hr : Kd.C (Kd.int .u8) W A bs.length bs) (hl : bs.length ≤ 140737488355328) (hb : Byt bs) :
    Calls Try.prog 60 #[.slice A bs.length c] W fun e w' => ∃ g, e = .returned (.pointer (some ⟨g, 0, none⟩)) ∧ RK w0 w' W.heap.size g (bs, 0) ∧ Below W.heap.size W w' := by
  refine (octets_NewReader.calls A c bs W hr hl hb).mono ?_
  rintro e w' ⟨g, row, he, hs, hbl, hg, _, hrow⟩
  exact ⟨g, he, ⟨⟨row, hs, hrow⟩, below_then hB hB.size hbl, hB.size, hg⟩, hbl⟩
end RK
theorem KeepG.box {W W1 : World} {g t b : Nat} {x0 x1 x2 x3 x4 x5 x6 x7 x8 : Int} (h : KeepG W W1 g) (hb : Box9 W t b x0 x1 x2 x3 x4 x5 x6 x7 x8) (hne : b ≠ g) : Box9 W1 t b x0 x1 x2 x3 x4 x5 x6 x7 x8 := h _ _ hb hne
theorem rUint1_range (s : List Int × Int) (h : Byt s.1) : 0 ≤ (rUint s 1).1 ∧ (rUint s 1).1 ≤ 255 := by
  obtain ⟨l, f⟩ := s
  have z : (0 : Int) ≤ 0 ∧ (0 : Int) ≤ 255 := by decide
  unfold rUint
  rw [if_neg (by decide), show (1 : Int).toNat = 1 from rfl]
  unfold rTake
  split
  · exact z
  · split
    · exact z
    · cases l with
      | nil => exact z
      | cons b bs =>
        have hb := (Byt.cons h).1
        have e : beNum [b] = b := by simp [beNum]
        simp only [List.take_succ_cons, List.take_zero, e]
        exact hb
theorem z64 : (0 : Int) ≤ 0 ∧ (0 : Int) < 18446744073709551616 := by decide
theorem byt_rTake (s : List Int × Int) (n : Nat) (h : Byt s.1) : Byt (rTake s n).2.2.1 := by
  unfold rTake
  split
  · exact h
  · split
    · exact h
    · exact h.drop n
theorem byt_rUint (s : List Int × Int) (k : Int) (h : Byt s.1) : Byt (rUint s k).2.1 := by
  unfold rUint
  split
  · exact h
  · exact byt_rTake s _ h
theorem byt_numGo (k : Nat) : ∀ (i : Nat) (n : Int) (l : List Int), Byt l → Byt (numGo k i n l).2.1 := by
  induction k with
  | zero => intro i n l h; exact h
  | succ k ih =>
    intro i n l h
    cases l with
    | nil => exact Byt.nil
    | cons b bs =>
      rw [numGo]
      split
      · exact h.cons.2
      · split
        · exact ih _ _ _ h.cons.2
        · split <;> exact h.cons.2
theorem byt_rNum (s : List Int × Int) (h : Byt s.1) : Byt (rNum s).2.1 := by
  unfold rNum
  split
  · exact h
  · exact byt_numGo _ _ _ _ h
theorem numGo_range (j : Nat) : ∀ (i : Nat) (n : Int) (l : List Int), Byt l → i + j = 9 → 0 ≤ n → n < ((128 ^ i : Nat) : Int) → 0 ≤ (numGo (j + 1) i n l).1 ∧ (numGo (j + 1) i n l).1 < 18446744073709551616 := by
  induction j with
  | zero =>
    intro i n l h hi h0 h1
    obtain rfl : i = 9 := by omega
    have e9 : ((128 ^ 9 : Nat) : Int) = 9223372036854775808 := by decide
    rw [e9] at h1
    cases l with
    | nil => exact z64
    | cons b bs =>
      have hb := h.cons.1
      rw [numGo]
      split
      · exact z64
      · split
        · exact z64
        · split
          · exact z64
          · rw [e9]
            simp only
            omega
  | succ j ih =>
    intro i n l h hi h0 h1
    cases l with
    | nil => exact z64
    | cons b bs =>
      have hb := h.cons.1
      have hp : (0 : Int) < ((128 ^ i : Nat) : Int) := by exact_mod_cast Nat.pos_of_ne_zero (by simp)
      have hle : ((128 ^ (i + 1) : Nat) : Int) ≤ 9223372036854775808 := by
        have : 128 ^ (i + 1) ≤ 128 ^ 9 := Nat.pow_le_pow_right (by decide) (by omega)
        have e9 : (128 ^ 9 : Nat) = 9223372036854775808 := by decide
        omega
      have hsucc : ((128 ^ (i + 1) : Nat) : Int) = ((128 ^ i : Nat) : Int) * 128 := by rw [Nat.pow_succ]; exact Int.natCast_mul _ _
      have h2 : 0 ≤ b % 128 := by omega
      have h3 : b % 128 ≤ 127 := by omega
      have hm0 : 0 ≤ b % 128 * ((128 ^ i : Nat) : Int) := Int.mul_nonneg h2 (by omega)
      have hm1 : b % 128 * ((128 ^ i : Nat) : Int) ≤ 127 * ((128 ^ i : Nat) : Int) := Int.mul_le_mul_of_nonneg_right h3 (by omega)
      rw [numGo]
      split
      · exact z64
      · split
        · exact ih _ _ _ h.cons.2 (by omega) (by omega) (by omega)
        · split
          · exact z64
          · simp only
            omega
theorem rNum_range (s : List Int × Int) (h : Byt s.1) : 0 ≤ (rNum s).1 ∧ (rNum s).1 < 18446744073709551616 := by
  unfold rNum
  split
  · exact z64
  · exact numGo_range 9 0 0 s.1 h (by omega) (by decide) (by decide)
theorem unzig_range (n : Int) (h0 : 0 ≤ n) (h1 : n < 18446744073709551616) : -9223372036854775808 ≤ unzig n ∧ unzig n ≤ 9223372036854775807 := by
  unfold unzig; split <;> omega
end Go.Proofs.Ytalpemoodollpaa.P
/- The state of a decoding: a reader of one's own, the nine fields. -/
namespace Go.Proofs.Ytalpemoodollpaa.P
open Go.RowKit Go.Proofs.YtalpemoodollpaaW.PrintWords Go.Proofs.YtalpemoodollpaaW.PrintLast Go.Proofs.YtalpemoodollpaaW.PrintMore
set_option linter.unusedVariables false
set_option linter.unusedSimpArgs false
structure DS (w W : World) (t b4 g lo : Nat) (s : List Int × Int) (x0 x1 x2 x3 x4 x5 x6 x7 x8 : Int) : Prop where
  rk : RK w W lo g s
  bx : Box9 W t w.heap.size x0 x1 x2 x3 x4 x5 x6 x7 x8
  c4 : W.heap[b4]? = some (.cells #[.pointer (some ⟨g, 0, none⟩)] 78 (0, 0))
  hb : w.heap.size < lo
  h4 : b4 ≠ g
  h5 : b4 ≠ w.heap.size
namespace DS
variable {w W W1 : World} {t b4 g lo : Nat} {s s1 : List Int × Int} {x0 x1 x2 x3 x4 x5 x6 x7 x8 : Int}
theorem step (h : DS w W t b4 g lo s x0 x1 x2 x3 x4 x5 x6 x7 x8) (hk : RK w W1 lo g s1) (kg : KeepG W W1 g) : DS w W1 t b4 g lo s1 x0 x1 x2 x3 x4 x5 x6 x7 x8 :=
  ⟨hk, kg.box h.bx (by have := h.rk.hg; have := h.hb; omega), kg _ _ h.c4 h.h4, h.hb, h.h4, h.h5⟩
theorem below (h : DS w W t b4 g lo s x0 x1 x2 x3 x4 x5 x6 x7 x8) (hb : Below W.heap.size W W1) : DS w W1 t b4 g lo s x0 x1 x2 x3 x4 x5 x6 x7 x8 :=
  ⟨h.rk.below hb, (hb.block _ (blk_lt h.bx)).trans h.bx, (hb.block _ (blk_lt h.c4)).trans h.c4, h.hb, h.h4, h.h5⟩
theorem num (h : DS w W t b4 g lo s x0 x1 x2 x3 x4 x5 x6 x7 x8) : Calls Try.prog 100 #[.pointer (some ⟨g, 0, none⟩)] W fun e w' => e = .returned (.int .u64 (rNum s).1) ∧ DS w w' t b4 g lo (rNum s).2 x0 x1 x2 x3 x4 x5 x6 x7 x8 :=
  h.rk.num.mono fun e w' ⟨he, hk, kg⟩ => ⟨he, h.step hk kg⟩
theorem int (h : DS w W t b4 g lo s x0 x1 x2 x3 x4 x5 x6 x7 x8) : Calls Try.prog 117 #[.pointer (some ⟨g, 0, none⟩)] W fun e w' => e = .returned (.int .i64 (unzig (rUint s 8).1)) ∧ DS w w' t b4 g lo (rUint s 8).2 x0 x1 x2 x3 x4 x5 x6 x7 x8 :=
  h.rk.int.mono fun e w' ⟨he, hk, kg⟩ => ⟨he, h.step hk kg⟩
theorem cell (h : DS w W t b4 g lo s x0 x1 x2 x3 x4 x5 x6 x7 x8) : W.cell? ⟨b4, 0, none⟩ = some (.pointer (some ⟨g, 0, none⟩)) := (blk_cell h.c4 0).trans rfl
theorem set0 (h : DS w W t b4 g lo s x0 x1 x2 x3 x4 x5 x6 x7 x8) (v : Int) : DS w (W.setCell ⟨w.heap.size, 0, none⟩ (.int .i64 v)) t b4 g lo s v x1 x2 x3 x4 x5 x6 x7 x8 :=
  ⟨h.rk.set (Nat.le_refl _) h.hb _, (blk_set h.bx 0 (.int .i64 v)).trans (by simp), (Below.heap_setCell W ⟨w.heap.size, 0, none⟩ _ b4 h.h5).trans h.c4, h.hb, h.h4, h.h5⟩
theorem set1 (h : DS w W t b4 g lo s x0 x1 x2 x3 x4 x5 x6 x7 x8) (v : Int) : DS w (W.setCell ⟨w.heap.size, 1, none⟩ (.int .i64 v)) t b4 g lo s x0 v x2 x3 x4 x5 x6 x7 x8 :=
  ⟨h.rk.set (Nat.le_refl _) h.hb _, (blk_set h.bx 1 (.int .i64 v)).trans (by simp), (Below.heap_setCell W ⟨w.heap.size, 1, none⟩ _ b4 h.h5).trans h.c4, h.hb, h.h4, h.h5⟩
theorem set2 (h : DS w W t b4 g lo s x0 x1 x2 x3 x4 x5 x6 x7 x8) (v : Int) : DS w (W.setCell ⟨w.heap.size, 2, none⟩ (.int .i64 v)) t b4 g lo s x0 x1 v x3 x4 x5 x6 x7 x8 :=
  ⟨h.rk.set (Nat.le_refl _) h.hb _, (blk_set h.bx 2 (.int .i64 v)).trans (by simp), (Below.heap_setCell W ⟨w.heap.size, 2, none⟩ _ b4 h.h5).trans h.c4, h.hb, h.h4, h.h5⟩
theorem set3 (h : DS w W t b4 g lo s x0 x1 x2 x3 x4 x5 x6 x7 x8) (v : Int) : DS w (W.setCell ⟨w.heap.size, 3, none⟩ (.int .i64 v)) t b4 g lo s x0 x1 x2 v x4 x5 x6 x7 x8 :=
  ⟨h.rk.set (Nat.le_refl _) h.hb _, (blk_set h.bx 3 (.int .i64 v)).trans (by simp), (Below.heap_setCell W ⟨w.heap.size, 3, none⟩ _ b4 h.h5).trans h.c4, h.hb, h.h4, h.h5⟩
theorem set4 (h : DS w W t b4 g lo s x0 x1 x2 x3 x4 x5 x6 x7 x8) (v : Int) : DS w (W.setCell ⟨w.heap.size, 4, none⟩ (.int .i64 v)) t b4 g lo s x0 x1 x2 x3 v x5 x6 x7 x8 :=
  ⟨h.rk.set (Nat.le_refl _) h.hb _, (blk_set h.bx 4 (.int .i64 v)).trans (by simp), (Below.heap_setCell W ⟨w.heap.size, 4, none⟩ _ b4 h.h5).trans h.c4, h.hb, h.h4, h.h5⟩
theorem set5 (h : DS w W t b4 g lo s x0 x1 x2 x3 x4 x5 x6 x7 x8) (v : Int) : DS w (W.setCell ⟨w.heap.size, 5, none⟩ (.int .i64 v)) t b4 g lo s x0 x1 x2 x3 x4 v x6 x7 x8 :=
  ⟨h.rk.set (Nat.le_refl _) h.hb _, (blk_set h.bx 5 (.int .i64 v)).trans (by simp), (Below.heap_setCell W ⟨w.heap.size, 5, none⟩ _ b4 h.h5).trans h.c4, h.hb, h.h4, h.h5⟩
theorem set6 (h : DS w W t b4 g lo s x0 x1 x2 x3 x4 x5 x6 x7 x8) (v : Int) : DS w (W.setCell ⟨w.heap.size, 6, none⟩ (.int .i64 v)) t b4 g lo s x0 x1 x2 x3 x4 x5 v x7 x8 :=
  ⟨h.rk.set (Nat.le_refl _) h.hb _, (blk_set h.bx 6 (.int .i64 v)).trans (by simp), (Below.heap_setCell W ⟨w.heap.size, 6, none⟩ _ b4 h.h5).trans h.c4, h.hb, h.h4, h.h5⟩
theorem set7 (h : DS w W t b4 g lo s x0 x1 x2 x3 x4 x5 x6 x7 x8) (v : Int) : DS w (W.setCell ⟨w.heap.size, 7, none⟩ (.int .i64 v)) t b4 g lo s x0 x1 x2 x3 x4 x5 x6 v x8 :=
  ⟨h.rk.set (Nat.le_refl _) h.hb _, (blk_set h.bx 7 (.int .i64 v)).trans (by simp), (Below.heap_setCell W ⟨w.heap.size, 7, none⟩ _ b4 h.h5).trans h.c4, h.hb, h.h4, h.h5⟩
theorem set8 (h : DS w W t b4 g lo s x0 x1 x2 x3 x4 x5 x6 x7 x8) (v : Int) : DS w (W.setCell ⟨w.heap.size, 8, none⟩ (.int .i64 v)) t b4 g lo s x0 x1 x2 x3 x4 x5 x6 x7 v :=
  ⟨h.rk.set (Nat.le_refl _) h.hb _, (blk_set h.bx 8 (.int .i64 v)).trans (by simp), (Below.heap_setCell W ⟨w.heap.size, 8, none⟩ _ b4 h.h5).trans h.c4, h.hb, h.h4, h.h5⟩
theorem frozen (h : DS w W t b4 g lo s x0 x1 x2 x3 x4 x5 x6 x7 x8) : W.frozen? ⟨w.heap.size, 0, none⟩ = false ∧ W.frozen? ⟨w.heap.size, 1, none⟩ = false ∧ W.frozen? ⟨w.heap.size, 2, none⟩ = false ∧ W.frozen? ⟨w.heap.size, 3, none⟩ = false ∧ W.frozen? ⟨w.heap.size, 4, none⟩ = false ∧ W.frozen? ⟨w.heap.size, 5, none⟩ = false ∧ W.frozen? ⟨w.heap.size, 6, none⟩ = false ∧ W.frozen? ⟨w.heap.size, 7, none⟩ = false ∧ W.frozen? ⟨w.heap.size, 8, none⟩ = false :=
  ⟨blk_frozen h.bx 0, blk_frozen h.bx 1, blk_frozen h.bx 2, blk_frozen h.bx 3, blk_frozen h.bx 4, blk_frozen h.bx 5, blk_frozen h.bx 6, blk_frozen h.bx 7, blk_frozen h.bx 8⟩
end DS
end Go.Proofs.Ytalpemoodollpaa.P
-- Printed by hookprint.py (the session's own program, over the kit's print.py): checked by Lean like any text.
namespace Go.Proofs.Ytalpemoodollpaa.P
open Go.RowKit Go.Proofs.YtalpemoodollpaaW.PrintWords Go.Proofs.YtalpemoodollpaaW.PrintLast Go.Proofs.YtalpemoodollpaaW.PrintMore
attribute [local go_sem] max2_int min2_int max_two min_two max_three min_three max_four min_four   -- for this text's walks alone
set_option linter.unusedVariables false
set_option linter.unusedSimpArgs false

/-! ### message_within: function 96 -/
def message_within.l0 : Nat → Int → Int → List Int → Int → Int → Option (Bool)
  | 0, _, _, _, _, _ => none
  | k + 1, x0, x1, x9, x10, x11 => if x11 < x10 then (if 0 ≤ x11 then (if x11 < (x9.length : Int) then (if (rd x9 x11) < x0 then (some false) else (if (rd x9 x11) > x1 then (some false) else (message_within.l0 k x0 x1 x9 x10 (wrap64 (x11 + 1))))) else (none)) else (none)) else (some true)
def message_within.f (k : Nat) (a0 : Int) (a1 : Int) (l2 : List Int) : Option (Bool) := message_within.l0 k a0 a1 l2 (l2.length : Int) 0
theorem message_within.mono_l : ∀ k, (∀ y0 y1 y2 y3 y4, LeO (message_within.l0 k y0 y1 y2 y3 y4) (message_within.l0 (k + 1) y0 y1 y2 y3 y4))
  | 0 => fun _ _ _ _ _ r h => by simp [message_within.l0] at h
  | k + 1 => by
    have ih0 := message_within.mono_l k
    · intro y0 y1 y2 y3 y4
      unfold message_within.l0
      repeat' first
      | (with_reducible exact ih0 _ _ _ _ _)
      | (with_reducible exact LeO.refl _)
      | (with_reducible exact LeO.none _)
      | (with_reducible refine LeO.ite ?_ ?_)
      | (with_reducible refine LeO.bind ?_ (fun _ => ?_))
      | exact ih0 _ _ _ _ _
      | exact LeO.none _
      | refine LeO.ite ?_ ?_
      | refine LeO.bind ?_ (fun _ => ?_)
theorem message_within.mono : ∀ a0 a1 a2 k, LeO (message_within.f k a0 a1 a2) (message_within.f (k + 1) a0 a1 a2) := by
  intro a0 a1 a2 k
  have ih0 := message_within.mono_l k
  unfold message_within.f
  repeat' first
      | (with_reducible exact ih0 _ _ _ _ _)
      | (with_reducible exact LeO.refl _)
      | (with_reducible exact LeO.none _)
      | (with_reducible refine LeO.ite ?_ ?_)
      | (with_reducible refine LeO.bind ?_ (fun _ => ?_))
      | exact ih0 _ _ _ _ _
      | exact LeO.none _
      | refine LeO.ite ?_ ?_
      | refine LeO.bind ?_ (fun _ => ?_)
set_option maxHeartbeats 8000000 in
set_option maxRecDepth 100000 in
theorem message_within.calls (k : Nat) (a0 : Int) (a1 : Int) (A2 : Option Addr) (c2 : Nat) (l2 : List Int) (r : Bool) (w : World) (hr2 : Kd.C (Kd.int .i64) w A2 l2.length l2) (hc2 : l2.length ≤ c2) (h : message_within.f k a0 a1 l2 = some r) :
    Calls Try.prog 96 #[.int .i64 a0, .int .i64 a1, .slice A2 l2.length c2] w fun e w' => e = .returned (.bool r) ∧ Drawn0 w w' := by
  have HR2 := Aside0.mk hr2
  have HC2 := Aside0.mk hc2
  clear hr2 hc2
  have H : (message_within.l0 k a0 a1 l2 (l2.length : Int) 0) = some r := h
  clear h
  have H' := Aside0.mk H
  clear H
  go_enter Try.func96, Try.ntmps96
  go_wp2
  go_loopg [11] k (fun kq v11 w' => ∃ (x11_1 : Int), v11 = .int .i64 x11_1 ∧ Aside0 (message_within.l0 kq a0 a1 l2 (l2.length : Int) x11_1 = some r) ∧ Aside0 (kq ≤ k) ∧ Drawn0 w w')
  case atStart => exact ⟨(0), (by first | rfl | (simp; done) | (simp [*]; done)), H', ⟨Nat.le_refl _⟩, by repeat (first | exact Drawn0.refl _ | apply Drawn0.step)⟩
  case round =>
    clear H'
    try clear c2
    try clear p2
    obtain ⟨x11_1, rfl, HA, HK1, ⟨m1, rfl⟩⟩ := hrel
    cases gk with
    | zero => exact absurd HA.out (by simp [message_within.l0])
    | succ k1 =>
      have H := HA.out
      clear HA
      simp only [message_within.l0] at H
      by_cases c4 : x11_1 < (l2.length : Int)
      · rw [if_pos c4] at H
        have c4b0 : decide (x11_1 < (l2.length : Int)) = true := decide_eq_true c4
        clear c4
        by_cases c5 : 0 ≤ x11_1
        · rw [if_pos c5] at H
          have c5b0 : decide (0 ≤ x11_1) = true := decide_eq_true c5
          clear c5
          by_cases c6 : x11_1 < (l2.length : Int)
          · rw [if_pos c6] at H
            have c6b0 : decide (x11_1 < (l2.length : Int)) = true := decide_eq_true c6
            clear c6
            by_cases c7 : (rd l2 x11_1) < a0
            · rw [if_pos c7] at H
              have c7b0 : decide ((rd l2 x11_1) < a0) = true := decide_eq_true c7
              clear c7
              obtain rfl := Option.some.inj H
              have p102 : 0 ≤ (x11_1 : Int) := of_decide_eq_true (by first | (with_reducible assumption) | assumption)
              have q102 : x11_1 < (l2.length : Int) := of_decide_eq_true (by first | (with_reducible assumption) | assumption)
              obtain ⟨ad102, e102, hx102_0⟩ := Kd.at_int HR2.out x11_1 p102 q102
              cases e102
              replace p102 := eq_true p102
              replace q102 := eq_true q102
              go_wp2
              go_ret
              exact ⟨by first | rfl | (simp; done) | (simp [*]; done), by repeat (first | exact Drawn0.refl _ | apply Drawn0.step)⟩
            · rw [if_neg c7] at H
              have c7b0 : decide ((rd l2 x11_1) < a0) = false := decide_eq_false c7
              clear c7
              by_cases c8 : (rd l2 x11_1) > a1
              · rw [if_pos c8] at H
                have c8b0 : decide (a1 < (rd l2 x11_1)) = true := decide_eq_true c8
                clear c8
                obtain rfl := Option.some.inj H
                have p102 : 0 ≤ (x11_1 : Int) := of_decide_eq_true (by first | (with_reducible assumption) | assumption)
                have q102 : x11_1 < (l2.length : Int) := of_decide_eq_true (by first | (with_reducible assumption) | assumption)
                obtain ⟨ad102, e102, hx102_0⟩ := Kd.at_int HR2.out x11_1 p102 q102
                cases e102
                replace p102 := eq_true p102
                replace q102 := eq_true q102
                go_wp2
                go_ret
                exact ⟨by first | rfl | (simp; done) | (simp [*]; done), by repeat (first | exact Drawn0.refl _ | apply Drawn0.step)⟩
              · rw [if_neg c8] at H
                have c8b0 : decide (a1 < (rd l2 x11_1)) = false := decide_eq_false c8
                clear c8
                have H' := Aside0.mk H
                clear H
                have p102 : 0 ≤ (x11_1 : Int) := of_decide_eq_true (by first | (with_reducible assumption) | assumption)
                have q102 : x11_1 < (l2.length : Int) := of_decide_eq_true (by first | (with_reducible assumption) | assumption)
                obtain ⟨ad102, e102, hx102_0⟩ := Kd.at_int HR2.out x11_1 p102 q102
                cases e102
                replace p102 := eq_true p102
                replace q102 := eq_true q102
                go_wp2
                go_roundg k1
                case measure => have := HK1.out; omega
                case rel => exact ⟨(wrap64 (x11_1 + 1)), (by first | rfl | (simp; done) | (simp [*]; done)), H', ⟨by have := HK1.out; omega⟩, by repeat (first | exact Drawn0.refl _ | apply Drawn0.step)⟩
          · rw [if_neg c6] at H
            exact absurd H (by simp)
        · rw [if_neg c5] at H
          exact absurd H (by simp)
      · rw [if_neg c4] at H
        have c4b0 : decide (x11_1 < (l2.length : Int)) = false := decide_eq_false c4
        clear c4
        obtain rfl := Option.some.inj H
        go_wp2
        go_ret
        exact ⟨by first | rfl | (simp; done) | (simp [*]; done), by repeat (first | exact Drawn0.refl _ | apply Drawn0.step)⟩

end Go.Proofs.Ytalpemoodollpaa.P
-- Printed by hookprint.py (the session's own program, over the kit's print.py): checked by Lean like any text.
namespace Go.Proofs.Ytalpemoodollpaa.P
open Go.RowKit Go.Proofs.YtalpemoodollpaaW.PrintWords Go.Proofs.YtalpemoodollpaaW.PrintLast Go.Proofs.YtalpemoodollpaaW.PrintMore
attribute [local go_sem] max2_int min2_int max_two min_two max_three min_three max_four min_four   -- for this text's walks alone
set_option linter.unusedVariables false
set_option linter.unusedSimpArgs false

/-! ### message_Right: function 32 -/
def message_Right.f (k : Nat) (a0_0 : Int) (a0_1 : Int) (a0_2 : Int) (a0_3 : Int) (a0_4 : Int) (a0_5 : Int) (a0_6 : Int) (a0_7 : Int) (a0_8 : Int) : Option (Bool) := (message_within.f k 1 9 (([a0_0] : List Int))).bind fun t107 => (if t107 = true then ((message_within.f k 0 255 (([a0_1, a0_8] : List Int))).bind fun t111 => (if t111 = true then ((message_within.f k 0 4611686018427387904 (([a0_2, a0_3] : List Int))).bind fun t115 => (if t115 = true then ((message_within.f k (-1) 4611686018427387904 (([a0_4, a0_5] : List Int))).bind fun t119 => (some t119)) else (some false))) else (some false))) else (some false))
theorem message_Right.mono : ∀ a0 a1 a2 a3 a4 a5 a6 a7 a8 k, LeO (message_Right.f k a0 a1 a2 a3 a4 a5 a6 a7 a8) (message_Right.f (k + 1) a0 a1 a2 a3 a4 a5 a6 a7 a8) := by
  intro a0 a1 a2 a3 a4 a5 a6 a7 a8 k
  unfold message_Right.f
  repeat' first
      | (with_reducible exact message_within.mono _ _ _ _)
      | (with_reducible exact LeO.refl _)
      | (with_reducible exact LeO.none _)
      | (with_reducible refine LeO.ite ?_ ?_)
      | (with_reducible refine LeO.bind ?_ (fun _ => ?_))
      | exact message_within.mono _ _ _ _
      | exact LeO.none _
      | refine LeO.ite ?_ ?_
      | refine LeO.bind ?_ (fun _ => ?_)
set_option maxHeartbeats 8000000 in
set_option maxRecDepth 100000 in
theorem message_Right.calls (k : Nat) (a0_0 : Int) (a0_1 : Int) (a0_2 : Int) (a0_3 : Int) (a0_4 : Int) (a0_5 : Int) (a0_6 : Int) (a0_7 : Int) (a0_8 : Int) (r : Bool) (w : World) (h : message_Right.f k a0_0 a0_1 a0_2 a0_3 a0_4 a0_5 a0_6 a0_7 a0_8 = some r) :
    Calls Try.prog 32 #[.agg #[.int .i64 a0_0, .int .i64 a0_1, .int .i64 a0_2, .int .i64 a0_3, .int .i64 a0_4, .int .i64 a0_5, .int .i64 a0_6, .int .i64 a0_7, .int .i64 a0_8]] w fun e w' => e = .returned (.bool r) ∧ Below w.heap.size w w' := by
  have hu29 := Try.underlying29
  have HB := Aside0.mk (Below.refl w.heap.size w)
  have H : ((message_within.f k 1 9 (([a0_0] : List Int))).bind fun t107 => (if t107 = true then ((message_within.f k 0 255 (([a0_1, a0_8] : List Int))).bind fun t111 => (if t111 = true then ((message_within.f k 0 4611686018427387904 (([a0_2, a0_3] : List Int))).bind fun t115 => (if t115 = true then ((message_within.f k (-1) 4611686018427387904 (([a0_4, a0_5] : List Int))).bind fun t119 => (some t119)) else (some false))) else (some false))) else (some false))) = some r := h
  clear h
  obtain ⟨y104, hy104⟩ : ∃ y_ : List Int, y_ = (([a0_0] : List Int)) := ⟨_, rfl⟩
  replace H : ((message_within.f k 1 9 y104).bind fun t107 => (if t107 = true then ((message_within.f k 0 255 (([a0_1, a0_8] : List Int))).bind fun t111 => (if t111 = true then ((message_within.f k 0 4611686018427387904 (([a0_2, a0_3] : List Int))).bind fun t115 => (if t115 = true then ((message_within.f k (-1) 4611686018427387904 (([a0_4, a0_5] : List Int))).bind fun t119 => (some t119)) else (some false))) else (some false))) else (some false))) = some r := by first | (rw [hy104]; with_reducible exact H) | (have H2_ := (Option.bind_some _ _).symm.trans H; rw [hy104]; with_reducible exact H2_) | (have H2_ := (Option.bind_some _ _).symm.trans H; with_reducible exact H2_) | with_reducible exact H | (rw [hy104]; exact H) | exact H
  have Ny104 := Aside0.mk hy104
  clear hy104
  replace H := Option.bind_eq_some_iff.mp H
  obtain ⟨t107, A20, H⟩ := H
  replace H : (if t107 = true then ((message_within.f k 0 255 (([a0_1, a0_8] : List Int))).bind fun t111 => (if t111 = true then ((message_within.f k 0 4611686018427387904 (([a0_2, a0_3] : List Int))).bind fun t115 => (if t115 = true then ((message_within.f k (-1) 4611686018427387904 (([a0_4, a0_5] : List Int))).bind fun t119 => (some t119)) else (some false))) else (some false))) else (some false)) = some r := H
  have A2 := Aside0.mk A20
  clear A20
  by_cases c3 : t107 = true
  · subst c3
    have H1 : ((message_within.f k 0 255 (([a0_1, a0_8] : List Int))).bind fun t111 => (if t111 = true then ((message_within.f k 0 4611686018427387904 (([a0_2, a0_3] : List Int))).bind fun t115 => (if t115 = true then ((message_within.f k (-1) 4611686018427387904 (([a0_4, a0_5] : List Int))).bind fun t119 => (some t119)) else (some false))) else (some false))) = some r := by rw [if_pos rfl] at H; exact H
    clear H
    have H := H1
    clear H1
    obtain ⟨y108, hy108⟩ : ∃ y_ : List Int, y_ = (([a0_1, a0_8] : List Int)) := ⟨_, rfl⟩
    replace H : ((message_within.f k 0 255 y108).bind fun t111 => (if t111 = true then ((message_within.f k 0 4611686018427387904 (([a0_2, a0_3] : List Int))).bind fun t115 => (if t115 = true then ((message_within.f k (-1) 4611686018427387904 (([a0_4, a0_5] : List Int))).bind fun t119 => (some t119)) else (some false))) else (some false))) = some r := by first | (rw [hy108]; with_reducible exact H) | (have H2_ := (Option.bind_some _ _).symm.trans H; rw [hy108]; with_reducible exact H2_) | (have H2_ := (Option.bind_some _ _).symm.trans H; with_reducible exact H2_) | with_reducible exact H | (rw [hy108]; exact H) | exact H
    have Ny108 := Aside0.mk hy108
    clear hy108
    replace H := Option.bind_eq_some_iff.mp H
    obtain ⟨t111, A40, H⟩ := H
    replace H : (if t111 = true then ((message_within.f k 0 4611686018427387904 (([a0_2, a0_3] : List Int))).bind fun t115 => (if t115 = true then ((message_within.f k (-1) 4611686018427387904 (([a0_4, a0_5] : List Int))).bind fun t119 => (some t119)) else (some false))) else (some false)) = some r := H
    have A4 := Aside0.mk A40
    clear A40
    by_cases c5 : t111 = true
    · subst c5
      have H1 : ((message_within.f k 0 4611686018427387904 (([a0_2, a0_3] : List Int))).bind fun t115 => (if t115 = true then ((message_within.f k (-1) 4611686018427387904 (([a0_4, a0_5] : List Int))).bind fun t119 => (some t119)) else (some false))) = some r := by rw [if_pos rfl] at H; exact H
      clear H
      have H := H1
      clear H1
      obtain ⟨y112, hy112⟩ : ∃ y_ : List Int, y_ = (([a0_2, a0_3] : List Int)) := ⟨_, rfl⟩
      replace H : ((message_within.f k 0 4611686018427387904 y112).bind fun t115 => (if t115 = true then ((message_within.f k (-1) 4611686018427387904 (([a0_4, a0_5] : List Int))).bind fun t119 => (some t119)) else (some false))) = some r := by first | (rw [hy112]; with_reducible exact H) | (have H2_ := (Option.bind_some _ _).symm.trans H; rw [hy112]; with_reducible exact H2_) | (have H2_ := (Option.bind_some _ _).symm.trans H; with_reducible exact H2_) | with_reducible exact H | (rw [hy112]; exact H) | exact H
      have Ny112 := Aside0.mk hy112
      clear hy112
      replace H := Option.bind_eq_some_iff.mp H
      obtain ⟨t115, A60, H⟩ := H
      replace H : (if t115 = true then ((message_within.f k (-1) 4611686018427387904 (([a0_4, a0_5] : List Int))).bind fun t119 => (some t119)) else (some false)) = some r := H
      have A6 := Aside0.mk A60
      clear A60
      by_cases c7 : t115 = true
      · subst c7
        have H1 : ((message_within.f k (-1) 4611686018427387904 (([a0_4, a0_5] : List Int))).bind fun t119 => (some t119)) = some r := by rw [if_pos rfl] at H; exact H
        clear H
        have H := H1
        clear H1
        obtain ⟨y116, hy116⟩ : ∃ y_ : List Int, y_ = (([a0_4, a0_5] : List Int)) := ⟨_, rfl⟩
        replace H : ((message_within.f k (-1) 4611686018427387904 y116).bind fun t119 => (some t119)) = some r := by first | (rw [hy116]; with_reducible exact H) | (have H2_ := (Option.bind_some _ _).symm.trans H; rw [hy116]; with_reducible exact H2_) | (have H2_ := (Option.bind_some _ _).symm.trans H; with_reducible exact H2_) | with_reducible exact H | (rw [hy116]; exact H) | exact H
        have Ny116 := Aside0.mk hy116
        clear hy116
        replace H := Option.bind_eq_some_iff.mp H
        obtain ⟨t119, A80, H⟩ := H
        replace H : (some t119) = some r := H
        have A8 := Aside0.mk A80
        clear A80
        obtain rfl := Option.some.inj H
        go_enter Try.func32, Try.ntmps32
        go_wp2_with (first | ((with_reducible refine gate_dst (N := 1) rfl ?_); (try (refine gate_guard (by rfl) ?_; dsimp only)); refine box_event ?hg (N := 1) ?hd (cs := #[.int .i64 a0_0, .int .i64 a0_1, .int .i64 a0_2, .int .i64 a0_3, .int .i64 a0_4, .int .i64 a0_5, .int .i64 a0_6, .int .i64 a0_7, .int .i64 a0_8]) (t := 29) ?hr ?_; (case hd => rfl); (case hg => rfl); (case hr => first | (go_simp; done) | (go_simp; rfl)); intro gb103 hg w9 hbox hb; have n0_ := Aside0.mk (below_step (by repeat (first | (with_reducible first | exact HB.out | apply below_alloc | apply pw_below_drewN | apply below_drew1) | exact HB.out)) hb); have n1_ := Aside0.mk (hbox); have n2_ := Aside0.mk ((by rw [hg]; exact (below_size (by repeat (first | (with_reducible first | exact HB.out | apply below_alloc | apply pw_below_drewN | apply below_drew1) | exact HB.out))) : w.heap.size ≤ gb103)); have n3_ := Aside0.mk ((by rw [hg]; exact (below_size (by repeat (first | (with_reducible first | exact HB.out | apply below_alloc | apply pw_below_drewN | apply below_drew1) | exact HB.out))) : w.heap.size ≤ gb103)); clear HB; have HB := n0_; have BK103 := n1_; have GW103 := n2_; have GE103 := n3_; clear n0_ n1_ n2_ n3_; clear hb hbox hg; have hcz10_0 : w9.cell? ⟨gb103, 0, none⟩ = some (.int .i64 a0_0) := (blk_cell BK103.out 0).trans rfl; have hcz10_1 : w9.cell? ⟨gb103, 1, none⟩ = some (.int .i64 a0_1) := (blk_cell BK103.out 1).trans rfl; have hcz10_2 : w9.cell? ⟨gb103, 2, none⟩ = some (.int .i64 a0_2) := (blk_cell BK103.out 2).trans rfl; have hcz10_3 : w9.cell? ⟨gb103, 3, none⟩ = some (.int .i64 a0_3) := (blk_cell BK103.out 3).trans rfl; have hcz10_4 : w9.cell? ⟨gb103, 4, none⟩ = some (.int .i64 a0_4) := (blk_cell BK103.out 4).trans rfl; have hcz10_5 : w9.cell? ⟨gb103, 5, none⟩ = some (.int .i64 a0_5) := (blk_cell BK103.out 5).trans rfl; have hcz10_6 : w9.cell? ⟨gb103, 6, none⟩ = some (.int .i64 a0_6) := (blk_cell BK103.out 6).trans rfl; have hcz10_7 : w9.cell? ⟨gb103, 7, none⟩ = some (.int .i64 a0_7) := (blk_cell BK103.out 7).trans rfl; have hcz10_8 : w9.cell? ⟨gb103, 8, none⟩ = some (.int .i64 a0_8) := (blk_cell BK103.out 8).trans rfl; have hfz10_0 := blk_frozen BK103.out 0; have hfz10_1 := blk_frozen BK103.out 1; have hfz10_2 := blk_frozen BK103.out 2; have hfz10_3 := blk_frozen BK103.out 3; have hfz10_4 := blk_frozen BK103.out 4; have hfz10_5 := blk_frozen BK103.out 5; have hfz10_6 := blk_frozen BK103.out 6; have hfz10_7 := blk_frozen BK103.out 7; have hfz10_8 := blk_frozen BK103.out 8) | ((with_reducible refine gate_dst (N := 5) rfl ?_); (try (refine gate_guard (by rfl) ?_; dsimp only)); refine Kd.R_lit (Kd.int .i64) _ 2 ?hg (N := 5) ?hd (xs := ([a0_0] : List Int)) (inner := [.int .i64 a0_0]) (ok := fun _ => True) (okp := fun _ => True) ?hr ?hp (fun _ hk => hk) trivial (Below.refl _ _) (Nat.le_refl _) (by simp) ?_; (case hd => rfl); (case hg => rfl); (case hr => first | (go_simp; done) | (go_simp; rfl)); (case hp => exact (Reps.one (show Kd.M (Kd.int .i64) _ _ _ a0_0 [.int .i64 a0_0] from rfl) (Reps.none _ _))); intro v105 w11 ho12 hb hg_ hnew_; clear hg_ hnew_; (first | rw [← Ny104.out] at ho12 | (simp only [Int.reduceToNat] at ho12; rw [← Ny104.out] at ho12)); have n0_ := Aside0.mk (Kd.R_lower ho12 (below_size (by repeat (first | (with_reducible first | exact HB.out | apply below_alloc | apply pw_below_drewN | apply below_drew1 | refine below_set ?_ GE103.out) | exact HB.out)))); have n1_ := Aside0.mk (blk_below (g := gb103) (o := .cells #[.int .i64 a0_0, .int .i64 a0_1, .int .i64 a0_2, .int .i64 a0_3, .int .i64 a0_4, .int .i64 a0_5, .int .i64 a0_6, .int .i64 a0_7, .int .i64 a0_8] 29 (0, 0)) (by (with_reducible repeat (first | refine blk_drewN ?_ _ | refine blk_drew ?_ | refine blk_alloc ?_ _)); exact BK103.out) hb); have n2_ := Aside0.mk (below_step (by repeat (first | (with_reducible first | exact HB.out | apply below_alloc | apply pw_below_drewN | apply below_drew1 | refine below_set ?_ GE103.out) | exact HB.out)) hb); clear BK103; clear HB; have HO106 := n0_; have BK103 := n1_; have HB := n2_; clear n0_ n1_ n2_; clear hb ho12; obtain ⟨Ao13, co13, eo13⟩ := Kd.R_slice HO106.out; subst eo13) | ((with_reducible refine gate_callee (f := 96) rfl ?_); refine goesL_ (some 6) rfl rfl Try.func96 (by kernel_rfl) rfl #[.int .i64 1, .int .i64 9, .slice Ao13 y104.length co13] rfl (by (try simp only [List.map_toArray, List.map_cons, List.map_nil]); first | done | rfl | (simp only [List.length_drop, List.length_take]; rfl)) ?_; (with_reducible refine (message_within.calls k 1 9 _ _ y104 true _ ?side1 ?side2 A2.out).mono ?_); (case side1 => repeat (first | exact (Kd.R_reads' HO106.out).2.2 | (with_reducible refine Kd.C_alloc ?_ _) | (with_reducible refine Kd.C_drewN ?_ _) | (with_reducible refine Kd.C_drew ?_))); (case side2 => exact (Kd.R_reads' HO106.out).2.1); rintro e w' ⟨rfl, ⟨nd, rfl⟩⟩; refine ⟨_, rfl, ?_⟩; have hcz14_0 : w11.cell? ⟨gb103, 0, none⟩ = some (.int .i64 a0_0) := (blk_cell BK103.out 0).trans rfl; have hcz14_1 : w11.cell? ⟨gb103, 1, none⟩ = some (.int .i64 a0_1) := (blk_cell BK103.out 1).trans rfl; have hcz14_2 : w11.cell? ⟨gb103, 2, none⟩ = some (.int .i64 a0_2) := (blk_cell BK103.out 2).trans rfl; have hcz14_3 : w11.cell? ⟨gb103, 3, none⟩ = some (.int .i64 a0_3) := (blk_cell BK103.out 3).trans rfl; have hcz14_4 : w11.cell? ⟨gb103, 4, none⟩ = some (.int .i64 a0_4) := (blk_cell BK103.out 4).trans rfl; have hcz14_5 : w11.cell? ⟨gb103, 5, none⟩ = some (.int .i64 a0_5) := (blk_cell BK103.out 5).trans rfl; have hcz14_6 : w11.cell? ⟨gb103, 6, none⟩ = some (.int .i64 a0_6) := (blk_cell BK103.out 6).trans rfl; have hcz14_7 : w11.cell? ⟨gb103, 7, none⟩ = some (.int .i64 a0_7) := (blk_cell BK103.out 7).trans rfl; have hcz14_8 : w11.cell? ⟨gb103, 8, none⟩ = some (.int .i64 a0_8) := (blk_cell BK103.out 8).trans rfl; have hfz14_0 := blk_frozen BK103.out 0; have hfz14_1 := blk_frozen BK103.out 1; have hfz14_2 := blk_frozen BK103.out 2; have hfz14_3 := blk_frozen BK103.out 3; have hfz14_4 := blk_frozen BK103.out 4; have hfz14_5 := blk_frozen BK103.out 5; have hfz14_6 := blk_frozen BK103.out 6; have hfz14_7 := blk_frozen BK103.out 7; have hfz14_8 := blk_frozen BK103.out 8) | ((with_reducible refine gate_dst (N := 12) rfl ?_); (try (refine gate_guard (by rfl) ?_; dsimp only)); refine Kd.R_lit (Kd.int .i64) _ 2 ?hg (N := 12) ?hd (xs := ([a0_1, a0_8] : List Int)) (inner := [.int .i64 a0_1, .int .i64 a0_8]) (ok := fun _ => True) (okp := fun _ => True) ?hr ?hp (fun _ hk => hk) trivial (Below.refl _ _) (Nat.le_refl _) (by simp) ?_; (case hd => rfl); (case hg => rfl); (case hr => first | (go_simp; done) | (go_simp; rfl)); (case hp => exact (Reps.one (show Kd.M (Kd.int .i64) _ _ _ a0_1 [.int .i64 a0_1] from rfl) (Reps.one (show Kd.M (Kd.int .i64) _ _ _ a0_8 [.int .i64 a0_8] from rfl) (Reps.none _ _)))); intro v109 w15 ho16 hb hg_ hnew_; clear hg_ hnew_; (first | rw [← Ny108.out] at ho16 | (simp only [Int.reduceToNat] at ho16; rw [← Ny108.out] at ho16)); have n0_ := Aside0.mk (Kd.R_elder' (by (with_reducible repeat (first | apply Kd.R_alloc | apply Kd.R_drewN | apply Kd.R_drew)); exact HO106.out) (Kd.R_base ho16) hb); have n1_ := Aside0.mk (Kd.R_lower (Kd.R_new' ho16 (Kd.R_lt (by (with_reducible repeat (first | apply Kd.R_alloc | apply Kd.R_drewN | apply Kd.R_drew)); exact HO106.out))) (below_size (by repeat (first | (with_reducible first | exact HB.out | apply below_alloc | apply pw_below_drewN | apply below_drew1 | refine below_set ?_ GE103.out) | exact HB.out)))); have n2_ := Aside0.mk (blk_below (g := gb103) (o := .cells #[.int .i64 a0_0, .int .i64 a0_1, .int .i64 a0_2, .int .i64 a0_3, .int .i64 a0_4, .int .i64 a0_5, .int .i64 a0_6, .int .i64 a0_7, .int .i64 a0_8] 29 (0, 0)) (by (with_reducible repeat (first | refine blk_drewN ?_ _ | refine blk_drew ?_ | refine blk_alloc ?_ _)); exact BK103.out) hb); have n3_ := Aside0.mk (below_step (by repeat (first | (with_reducible first | exact HB.out | apply below_alloc | apply pw_below_drewN | apply below_drew1 | refine below_set ?_ GE103.out) | exact HB.out)) hb); clear HO106; clear BK103; clear HB; have HO106 := n0_; have HO110 := n1_; have BK103 := n2_; have HB := n3_; clear n0_ n1_ n2_ n3_; clear hb ho16; obtain ⟨Ao17, co17, eo17⟩ := Kd.R_slice HO110.out; subst eo17) | (go_at_call 96; (with_reducible refine (message_within.calls k 0 255 _ _ y108 true _ ?side1 ?side2 A4.out).mono ?_); (case side1 => repeat (first | exact (Kd.R_reads' HO110.out).2.2 | (with_reducible refine Kd.C_alloc ?_ _) | (with_reducible refine Kd.C_drewN ?_ _) | (with_reducible refine Kd.C_drew ?_))); (case side2 => exact (Kd.R_reads' HO110.out).2.1); rintro e w' ⟨rfl, ⟨nd, rfl⟩⟩; have hcz18_0 : w15.cell? ⟨gb103, 0, none⟩ = some (.int .i64 a0_0) := (blk_cell BK103.out 0).trans rfl; have hcz18_1 : w15.cell? ⟨gb103, 1, none⟩ = some (.int .i64 a0_1) := (blk_cell BK103.out 1).trans rfl; have hcz18_2 : w15.cell? ⟨gb103, 2, none⟩ = some (.int .i64 a0_2) := (blk_cell BK103.out 2).trans rfl; have hcz18_3 : w15.cell? ⟨gb103, 3, none⟩ = some (.int .i64 a0_3) := (blk_cell BK103.out 3).trans rfl; have hcz18_4 : w15.cell? ⟨gb103, 4, none⟩ = some (.int .i64 a0_4) := (blk_cell BK103.out 4).trans rfl; have hcz18_5 : w15.cell? ⟨gb103, 5, none⟩ = some (.int .i64 a0_5) := (blk_cell BK103.out 5).trans rfl; have hcz18_6 : w15.cell? ⟨gb103, 6, none⟩ = some (.int .i64 a0_6) := (blk_cell BK103.out 6).trans rfl; have hcz18_7 : w15.cell? ⟨gb103, 7, none⟩ = some (.int .i64 a0_7) := (blk_cell BK103.out 7).trans rfl; have hcz18_8 : w15.cell? ⟨gb103, 8, none⟩ = some (.int .i64 a0_8) := (blk_cell BK103.out 8).trans rfl; have hfz18_0 := blk_frozen BK103.out 0; have hfz18_1 := blk_frozen BK103.out 1; have hfz18_2 := blk_frozen BK103.out 2; have hfz18_3 := blk_frozen BK103.out 3; have hfz18_4 := blk_frozen BK103.out 4; have hfz18_5 := blk_frozen BK103.out 5; have hfz18_6 := blk_frozen BK103.out 6; have hfz18_7 := blk_frozen BK103.out 7; have hfz18_8 := blk_frozen BK103.out 8) | ((with_reducible refine gate_dst (N := 20) rfl ?_); (try (refine gate_guard (by rfl) ?_; dsimp only)); refine Kd.R_lit (Kd.int .i64) _ 2 ?hg (N := 20) ?hd (xs := ([a0_2, a0_3] : List Int)) (inner := [.int .i64 a0_2, .int .i64 a0_3]) (ok := fun _ => True) (okp := fun _ => True) ?hr ?hp (fun _ hk => hk) trivial (Below.refl _ _) (Nat.le_refl _) (by simp) ?_; (case hd => rfl); (case hg => rfl); (case hr => first | (go_simp; done) | (go_simp; rfl)); (case hp => exact (Reps.one (show Kd.M (Kd.int .i64) _ _ _ a0_2 [.int .i64 a0_2] from rfl) (Reps.one (show Kd.M (Kd.int .i64) _ _ _ a0_3 [.int .i64 a0_3] from rfl) (Reps.none _ _)))); intro v113 w19 ho20 hb hg_ hnew_; clear hg_ hnew_; (first | rw [← Ny112.out] at ho20 | (simp only [Int.reduceToNat] at ho20; rw [← Ny112.out] at ho20)); have n0_ := Aside0.mk (Kd.R_elder' (by (with_reducible repeat (first | apply Kd.R_alloc | apply Kd.R_drewN | apply Kd.R_drew)); exact HO106.out) (Kd.R_base ho20) hb); have n1_ := Aside0.mk (Kd.R_elder' (by (with_reducible repeat (first | apply Kd.R_alloc | apply Kd.R_drewN | apply Kd.R_drew)); exact HO110.out) (Kd.R_base ho20) hb); have n2_ := Aside0.mk (Kd.R_lower (Kd.R_new' (Kd.R_new' ho20 (Kd.R_lt (by (with_reducible repeat (first | apply Kd.R_alloc | apply Kd.R_drewN | apply Kd.R_drew)); exact HO106.out))) (Kd.R_lt (by (with_reducible repeat (first | apply Kd.R_alloc | apply Kd.R_drewN | apply Kd.R_drew)); exact HO110.out))) (below_size (by repeat (first | (with_reducible first | exact HB.out | apply below_alloc | apply pw_below_drewN | apply below_drew1 | refine below_set ?_ GE103.out) | exact HB.out)))); have n3_ := Aside0.mk (blk_below (g := gb103) (o := .cells #[.int .i64 a0_0, .int .i64 a0_1, .int .i64 a0_2, .int .i64 a0_3, .int .i64 a0_4, .int .i64 a0_5, .int .i64 a0_6, .int .i64 a0_7, .int .i64 a0_8] 29 (0, 0)) (by (with_reducible repeat (first | refine blk_drewN ?_ _ | refine blk_drew ?_ | refine blk_alloc ?_ _)); exact BK103.out) hb); have n4_ := Aside0.mk (below_step (by repeat (first | (with_reducible first | exact HB.out | apply below_alloc | apply pw_below_drewN | apply below_drew1 | refine below_set ?_ GE103.out) | exact HB.out)) hb); clear HO106; clear HO110; clear BK103; clear HB; have HO106 := n0_; have HO110 := n1_; have HO114 := n2_; have BK103 := n3_; have HB := n4_; clear n0_ n1_ n2_ n3_ n4_; clear hb ho20; obtain ⟨Ao21, co21, eo21⟩ := Kd.R_slice HO114.out; subst eo21) | (go_at_call 96; (with_reducible refine (message_within.calls k 0 4611686018427387904 _ _ y112 true _ ?side1 ?side2 A6.out).mono ?_); (case side1 => repeat (first | exact (Kd.R_reads' HO114.out).2.2 | (with_reducible refine Kd.C_alloc ?_ _) | (with_reducible refine Kd.C_drewN ?_ _) | (with_reducible refine Kd.C_drew ?_))); (case side2 => exact (Kd.R_reads' HO114.out).2.1); rintro e w' ⟨rfl, ⟨nd, rfl⟩⟩; have hcz22_0 : w19.cell? ⟨gb103, 0, none⟩ = some (.int .i64 a0_0) := (blk_cell BK103.out 0).trans rfl; have hcz22_1 : w19.cell? ⟨gb103, 1, none⟩ = some (.int .i64 a0_1) := (blk_cell BK103.out 1).trans rfl; have hcz22_2 : w19.cell? ⟨gb103, 2, none⟩ = some (.int .i64 a0_2) := (blk_cell BK103.out 2).trans rfl; have hcz22_3 : w19.cell? ⟨gb103, 3, none⟩ = some (.int .i64 a0_3) := (blk_cell BK103.out 3).trans rfl; have hcz22_4 : w19.cell? ⟨gb103, 4, none⟩ = some (.int .i64 a0_4) := (blk_cell BK103.out 4).trans rfl; have hcz22_5 : w19.cell? ⟨gb103, 5, none⟩ = some (.int .i64 a0_5) := (blk_cell BK103.out 5).trans rfl; have hcz22_6 : w19.cell? ⟨gb103, 6, none⟩ = some (.int .i64 a0_6) := (blk_cell BK103.out 6).trans rfl; have hcz22_7 : w19.cell? ⟨gb103, 7, none⟩ = some (.int .i64 a0_7) := (blk_cell BK103.out 7).trans rfl; have hcz22_8 : w19.cell? ⟨gb103, 8, none⟩ = some (.int .i64 a0_8) := (blk_cell BK103.out 8).trans rfl; have hfz22_0 := blk_frozen BK103.out 0; have hfz22_1 := blk_frozen BK103.out 1; have hfz22_2 := blk_frozen BK103.out 2; have hfz22_3 := blk_frozen BK103.out 3; have hfz22_4 := blk_frozen BK103.out 4; have hfz22_5 := blk_frozen BK103.out 5; have hfz22_6 := blk_frozen BK103.out 6; have hfz22_7 := blk_frozen BK103.out 7; have hfz22_8 := blk_frozen BK103.out 8) | ((with_reducible refine gate_dst (N := 28) rfl ?_); (try (refine gate_guard (by rfl) ?_; dsimp only)); refine Kd.R_lit (Kd.int .i64) _ 2 ?hg (N := 28) ?hd (xs := ([a0_4, a0_5] : List Int)) (inner := [.int .i64 a0_4, .int .i64 a0_5]) (ok := fun _ => True) (okp := fun _ => True) ?hr ?hp (fun _ hk => hk) trivial (Below.refl _ _) (Nat.le_refl _) (by simp) ?_; (case hd => rfl); (case hg => rfl); (case hr => first | (go_simp; done) | (go_simp; rfl)); (case hp => exact (Reps.one (show Kd.M (Kd.int .i64) _ _ _ a0_4 [.int .i64 a0_4] from rfl) (Reps.one (show Kd.M (Kd.int .i64) _ _ _ a0_5 [.int .i64 a0_5] from rfl) (Reps.none _ _)))); intro v117 w23 ho24 hb hg_ hnew_; clear hg_ hnew_; (first | rw [← Ny116.out] at ho24 | (simp only [Int.reduceToNat] at ho24; rw [← Ny116.out] at ho24)); have n0_ := Aside0.mk (Kd.R_elder' (by (with_reducible repeat (first | apply Kd.R_alloc | apply Kd.R_drewN | apply Kd.R_drew)); exact HO106.out) (Kd.R_base ho24) hb); have n1_ := Aside0.mk (Kd.R_elder' (by (with_reducible repeat (first | apply Kd.R_alloc | apply Kd.R_drewN | apply Kd.R_drew)); exact HO110.out) (Kd.R_base ho24) hb); have n2_ := Aside0.mk (Kd.R_elder' (by (with_reducible repeat (first | apply Kd.R_alloc | apply Kd.R_drewN | apply Kd.R_drew)); exact HO114.out) (Kd.R_base ho24) hb); have n3_ := Aside0.mk (Kd.R_lower (Kd.R_new' (Kd.R_new' (Kd.R_new' ho24 (Kd.R_lt (by (with_reducible repeat (first | apply Kd.R_alloc | apply Kd.R_drewN | apply Kd.R_drew)); exact HO106.out))) (Kd.R_lt (by (with_reducible repeat (first | apply Kd.R_alloc | apply Kd.R_drewN | apply Kd.R_drew)); exact HO110.out))) (Kd.R_lt (by (with_reducible repeat (first | apply Kd.R_alloc | apply Kd.R_drewN | apply Kd.R_drew)); exact HO114.out))) (below_size (by repeat (first | (with_reducible first | exact HB.out | apply below_alloc | apply pw_below_drewN | apply below_drew1 | refine below_set ?_ GE103.out) | exact HB.out)))); have n4_ := Aside0.mk (blk_below (g := gb103) (o := .cells #[.int .i64 a0_0, .int .i64 a0_1, .int .i64 a0_2, .int .i64 a0_3, .int .i64 a0_4, .int .i64 a0_5, .int .i64 a0_6, .int .i64 a0_7, .int .i64 a0_8] 29 (0, 0)) (by (with_reducible repeat (first | refine blk_drewN ?_ _ | refine blk_drew ?_ | refine blk_alloc ?_ _)); exact BK103.out) hb); have n5_ := Aside0.mk (below_step (by repeat (first | (with_reducible first | exact HB.out | apply below_alloc | apply pw_below_drewN | apply below_drew1 | refine below_set ?_ GE103.out) | exact HB.out)) hb); clear HO106; clear HO110; clear HO114; clear BK103; clear HB; have HO106 := n0_; have HO110 := n1_; have HO114 := n2_; have HO118 := n3_; have BK103 := n4_; have HB := n5_; clear n0_ n1_ n2_ n3_ n4_ n5_; clear hb ho24; obtain ⟨Ao25, co25, eo25⟩ := Kd.R_slice HO118.out; subst eo25) | (go_at_call 96; (with_reducible refine (message_within.calls k (-1) 4611686018427387904 _ _ y116 t119 _ ?side1 ?side2 A8.out).mono ?_); (case side1 => repeat (first | exact (Kd.R_reads' HO118.out).2.2 | (with_reducible refine Kd.C_alloc ?_ _) | (with_reducible refine Kd.C_drewN ?_ _) | (with_reducible refine Kd.C_drew ?_))); (case side2 => exact (Kd.R_reads' HO118.out).2.1); rintro e w' ⟨rfl, ⟨nd, rfl⟩⟩))
        go_ret
        exact ⟨by first | rfl | (simp [errW_none, errW_some] <;> rfl) | (simp [*, errW_none, errW_some] <;> rfl), by repeat (first | (with_reducible first | exact HB.out | apply below_alloc | apply pw_below_drewN | apply below_drew1 | refine below_set ?_ GE103.out) | exact HB.out)⟩
      · replace c7 := Bool.eq_false_iff.mpr c7
        subst c7
        have H1 : (some false) = some r := by rw [if_neg (show ¬ (false = true) by decide)] at H; exact H
        clear H
        have H := H1
        clear H1
        obtain rfl := Option.some.inj H
        go_enter Try.func32, Try.ntmps32
        go_wp2_with (first | ((with_reducible refine gate_dst (N := 1) rfl ?_); (try (refine gate_guard (by rfl) ?_; dsimp only)); refine box_event ?hg (N := 1) ?hd (cs := #[.int .i64 a0_0, .int .i64 a0_1, .int .i64 a0_2, .int .i64 a0_3, .int .i64 a0_4, .int .i64 a0_5, .int .i64 a0_6, .int .i64 a0_7, .int .i64 a0_8]) (t := 29) ?hr ?_; (case hd => rfl); (case hg => rfl); (case hr => first | (go_simp; done) | (go_simp; rfl)); intro gb103 hg w26 hbox hb; have n0_ := Aside0.mk (below_step (by repeat (first | (with_reducible first | exact HB.out | apply below_alloc | apply pw_below_drewN | apply below_drew1) | exact HB.out)) hb); have n1_ := Aside0.mk (hbox); have n2_ := Aside0.mk ((by rw [hg]; exact (below_size (by repeat (first | (with_reducible first | exact HB.out | apply below_alloc | apply pw_below_drewN | apply below_drew1) | exact HB.out))) : w.heap.size ≤ gb103)); have n3_ := Aside0.mk ((by rw [hg]; exact (below_size (by repeat (first | (with_reducible first | exact HB.out | apply below_alloc | apply pw_below_drewN | apply below_drew1) | exact HB.out))) : w.heap.size ≤ gb103)); clear HB; have HB := n0_; have BK103 := n1_; have GW103 := n2_; have GE103 := n3_; clear n0_ n1_ n2_ n3_; clear hb hbox hg; have hcz27_0 : w26.cell? ⟨gb103, 0, none⟩ = some (.int .i64 a0_0) := (blk_cell BK103.out 0).trans rfl; have hcz27_1 : w26.cell? ⟨gb103, 1, none⟩ = some (.int .i64 a0_1) := (blk_cell BK103.out 1).trans rfl; have hcz27_2 : w26.cell? ⟨gb103, 2, none⟩ = some (.int .i64 a0_2) := (blk_cell BK103.out 2).trans rfl; have hcz27_3 : w26.cell? ⟨gb103, 3, none⟩ = some (.int .i64 a0_3) := (blk_cell BK103.out 3).trans rfl; have hcz27_4 : w26.cell? ⟨gb103, 4, none⟩ = some (.int .i64 a0_4) := (blk_cell BK103.out 4).trans rfl; have hcz27_5 : w26.cell? ⟨gb103, 5, none⟩ = some (.int .i64 a0_5) := (blk_cell BK103.out 5).trans rfl; have hcz27_6 : w26.cell? ⟨gb103, 6, none⟩ = some (.int .i64 a0_6) := (blk_cell BK103.out 6).trans rfl; have hcz27_7 : w26.cell? ⟨gb103, 7, none⟩ = some (.int .i64 a0_7) := (blk_cell BK103.out 7).trans rfl; have hcz27_8 : w26.cell? ⟨gb103, 8, none⟩ = some (.int .i64 a0_8) := (blk_cell BK103.out 8).trans rfl; have hfz27_0 := blk_frozen BK103.out 0; have hfz27_1 := blk_frozen BK103.out 1; have hfz27_2 := blk_frozen BK103.out 2; have hfz27_3 := blk_frozen BK103.out 3; have hfz27_4 := blk_frozen BK103.out 4; have hfz27_5 := blk_frozen BK103.out 5; have hfz27_6 := blk_frozen BK103.out 6; have hfz27_7 := blk_frozen BK103.out 7; have hfz27_8 := blk_frozen BK103.out 8) | ((with_reducible refine gate_dst (N := 5) rfl ?_); (try (refine gate_guard (by rfl) ?_; dsimp only)); refine Kd.R_lit (Kd.int .i64) _ 2 ?hg (N := 5) ?hd (xs := ([a0_0] : List Int)) (inner := [.int .i64 a0_0]) (ok := fun _ => True) (okp := fun _ => True) ?hr ?hp (fun _ hk => hk) trivial (Below.refl _ _) (Nat.le_refl _) (by simp) ?_; (case hd => rfl); (case hg => rfl); (case hr => first | (go_simp; done) | (go_simp; rfl)); (case hp => exact (Reps.one (show Kd.M (Kd.int .i64) _ _ _ a0_0 [.int .i64 a0_0] from rfl) (Reps.none _ _))); intro v105 w28 ho29 hb hg_ hnew_; clear hg_ hnew_; (first | rw [← Ny104.out] at ho29 | (simp only [Int.reduceToNat] at ho29; rw [← Ny104.out] at ho29)); have n0_ := Aside0.mk (Kd.R_lower ho29 (below_size (by repeat (first | (with_reducible first | exact HB.out | apply below_alloc | apply pw_below_drewN | apply below_drew1 | refine below_set ?_ GE103.out) | exact HB.out)))); have n1_ := Aside0.mk (blk_below (g := gb103) (o := .cells #[.int .i64 a0_0, .int .i64 a0_1, .int .i64 a0_2, .int .i64 a0_3, .int .i64 a0_4, .int .i64 a0_5, .int .i64 a0_6, .int .i64 a0_7, .int .i64 a0_8] 29 (0, 0)) (by (with_reducible repeat (first | refine blk_drewN ?_ _ | refine blk_drew ?_ | refine blk_alloc ?_ _)); exact BK103.out) hb); have n2_ := Aside0.mk (below_step (by repeat (first | (with_reducible first | exact HB.out | apply below_alloc | apply pw_below_drewN | apply below_drew1 | refine below_set ?_ GE103.out) | exact HB.out)) hb); clear BK103; clear HB; have HO106 := n0_; have BK103 := n1_; have HB := n2_; clear n0_ n1_ n2_; clear hb ho29; obtain ⟨Ao30, co30, eo30⟩ := Kd.R_slice HO106.out; subst eo30) | ((with_reducible refine gate_callee (f := 96) rfl ?_); refine goesL_ (some 6) rfl rfl Try.func96 (by kernel_rfl) rfl #[.int .i64 1, .int .i64 9, .slice Ao30 y104.length co30] rfl (by (try simp only [List.map_toArray, List.map_cons, List.map_nil]); first | done | rfl | (simp only [List.length_drop, List.length_take]; rfl)) ?_; (with_reducible refine (message_within.calls k 1 9 _ _ y104 true _ ?side1 ?side2 A2.out).mono ?_); (case side1 => repeat (first | exact (Kd.R_reads' HO106.out).2.2 | (with_reducible refine Kd.C_alloc ?_ _) | (with_reducible refine Kd.C_drewN ?_ _) | (with_reducible refine Kd.C_drew ?_))); (case side2 => exact (Kd.R_reads' HO106.out).2.1); rintro e w' ⟨rfl, ⟨nd, rfl⟩⟩; refine ⟨_, rfl, ?_⟩; have hcz31_0 : w28.cell? ⟨gb103, 0, none⟩ = some (.int .i64 a0_0) := (blk_cell BK103.out 0).trans rfl; have hcz31_1 : w28.cell? ⟨gb103, 1, none⟩ = some (.int .i64 a0_1) := (blk_cell BK103.out 1).trans rfl; have hcz31_2 : w28.cell? ⟨gb103, 2, none⟩ = some (.int .i64 a0_2) := (blk_cell BK103.out 2).trans rfl; have hcz31_3 : w28.cell? ⟨gb103, 3, none⟩ = some (.int .i64 a0_3) := (blk_cell BK103.out 3).trans rfl; have hcz31_4 : w28.cell? ⟨gb103, 4, none⟩ = some (.int .i64 a0_4) := (blk_cell BK103.out 4).trans rfl; have hcz31_5 : w28.cell? ⟨gb103, 5, none⟩ = some (.int .i64 a0_5) := (blk_cell BK103.out 5).trans rfl; have hcz31_6 : w28.cell? ⟨gb103, 6, none⟩ = some (.int .i64 a0_6) := (blk_cell BK103.out 6).trans rfl; have hcz31_7 : w28.cell? ⟨gb103, 7, none⟩ = some (.int .i64 a0_7) := (blk_cell BK103.out 7).trans rfl; have hcz31_8 : w28.cell? ⟨gb103, 8, none⟩ = some (.int .i64 a0_8) := (blk_cell BK103.out 8).trans rfl; have hfz31_0 := blk_frozen BK103.out 0; have hfz31_1 := blk_frozen BK103.out 1; have hfz31_2 := blk_frozen BK103.out 2; have hfz31_3 := blk_frozen BK103.out 3; have hfz31_4 := blk_frozen BK103.out 4; have hfz31_5 := blk_frozen BK103.out 5; have hfz31_6 := blk_frozen BK103.out 6; have hfz31_7 := blk_frozen BK103.out 7; have hfz31_8 := blk_frozen BK103.out 8) | ((with_reducible refine gate_dst (N := 12) rfl ?_); (try (refine gate_guard (by rfl) ?_; dsimp only)); refine Kd.R_lit (Kd.int .i64) _ 2 ?hg (N := 12) ?hd (xs := ([a0_1, a0_8] : List Int)) (inner := [.int .i64 a0_1, .int .i64 a0_8]) (ok := fun _ => True) (okp := fun _ => True) ?hr ?hp (fun _ hk => hk) trivial (Below.refl _ _) (Nat.le_refl _) (by simp) ?_; (case hd => rfl); (case hg => rfl); (case hr => first | (go_simp; done) | (go_simp; rfl)); (case hp => exact (Reps.one (show Kd.M (Kd.int .i64) _ _ _ a0_1 [.int .i64 a0_1] from rfl) (Reps.one (show Kd.M (Kd.int .i64) _ _ _ a0_8 [.int .i64 a0_8] from rfl) (Reps.none _ _)))); intro v109 w32 ho33 hb hg_ hnew_; clear hg_ hnew_; (first | rw [← Ny108.out] at ho33 | (simp only [Int.reduceToNat] at ho33; rw [← Ny108.out] at ho33)); have n0_ := Aside0.mk (Kd.R_elder' (by (with_reducible repeat (first | apply Kd.R_alloc | apply Kd.R_drewN | apply Kd.R_drew)); exact HO106.out) (Kd.R_base ho33) hb); have n1_ := Aside0.mk (Kd.R_lower (Kd.R_new' ho33 (Kd.R_lt (by (with_reducible repeat (first | apply Kd.R_alloc | apply Kd.R_drewN | apply Kd.R_drew)); exact HO106.out))) (below_size (by repeat (first | (with_reducible first | exact HB.out | apply below_alloc | apply pw_below_drewN | apply below_drew1 | refine below_set ?_ GE103.out) | exact HB.out)))); have n2_ := Aside0.mk (blk_below (g := gb103) (o := .cells #[.int .i64 a0_0, .int .i64 a0_1, .int .i64 a0_2, .int .i64 a0_3, .int .i64 a0_4, .int .i64 a0_5, .int .i64 a0_6, .int .i64 a0_7, .int .i64 a0_8] 29 (0, 0)) (by (with_reducible repeat (first | refine blk_drewN ?_ _ | refine blk_drew ?_ | refine blk_alloc ?_ _)); exact BK103.out) hb); have n3_ := Aside0.mk (below_step (by repeat (first | (with_reducible first | exact HB.out | apply below_alloc | apply pw_below_drewN | apply below_drew1 | refine below_set ?_ GE103.out) | exact HB.out)) hb); clear HO106; clear BK103; clear HB; have HO106 := n0_; have HO110 := n1_; have BK103 := n2_; have HB := n3_; clear n0_ n1_ n2_ n3_; clear hb ho33; obtain ⟨Ao34, co34, eo34⟩ := Kd.R_slice HO110.out; subst eo34) | (go_at_call 96; (with_reducible refine (message_within.calls k 0 255 _ _ y108 true _ ?side1 ?side2 A4.out).mono ?_); (case side1 => repeat (first | exact (Kd.R_reads' HO110.out).2.2 | (with_reducible refine Kd.C_alloc ?_ _) | (with_reducible refine Kd.C_drewN ?_ _) | (with_reducible refine Kd.C_drew ?_))); (case side2 => exact (Kd.R_reads' HO110.out).2.1); rintro e w' ⟨rfl, ⟨nd, rfl⟩⟩; have hcz35_0 : w32.cell? ⟨gb103, 0, none⟩ = some (.int .i64 a0_0) := (blk_cell BK103.out 0).trans rfl; have hcz35_1 : w32.cell? ⟨gb103, 1, none⟩ = some (.int .i64 a0_1) := (blk_cell BK103.out 1).trans rfl; have hcz35_2 : w32.cell? ⟨gb103, 2, none⟩ = some (.int .i64 a0_2) := (blk_cell BK103.out 2).trans rfl; have hcz35_3 : w32.cell? ⟨gb103, 3, none⟩ = some (.int .i64 a0_3) := (blk_cell BK103.out 3).trans rfl; have hcz35_4 : w32.cell? ⟨gb103, 4, none⟩ = some (.int .i64 a0_4) := (blk_cell BK103.out 4).trans rfl; have hcz35_5 : w32.cell? ⟨gb103, 5, none⟩ = some (.int .i64 a0_5) := (blk_cell BK103.out 5).trans rfl; have hcz35_6 : w32.cell? ⟨gb103, 6, none⟩ = some (.int .i64 a0_6) := (blk_cell BK103.out 6).trans rfl; have hcz35_7 : w32.cell? ⟨gb103, 7, none⟩ = some (.int .i64 a0_7) := (blk_cell BK103.out 7).trans rfl; have hcz35_8 : w32.cell? ⟨gb103, 8, none⟩ = some (.int .i64 a0_8) := (blk_cell BK103.out 8).trans rfl; have hfz35_0 := blk_frozen BK103.out 0; have hfz35_1 := blk_frozen BK103.out 1; have hfz35_2 := blk_frozen BK103.out 2; have hfz35_3 := blk_frozen BK103.out 3; have hfz35_4 := blk_frozen BK103.out 4; have hfz35_5 := blk_frozen BK103.out 5; have hfz35_6 := blk_frozen BK103.out 6; have hfz35_7 := blk_frozen BK103.out 7; have hfz35_8 := blk_frozen BK103.out 8) | ((with_reducible refine gate_dst (N := 20) rfl ?_); (try (refine gate_guard (by rfl) ?_; dsimp only)); refine Kd.R_lit (Kd.int .i64) _ 2 ?hg (N := 20) ?hd (xs := ([a0_2, a0_3] : List Int)) (inner := [.int .i64 a0_2, .int .i64 a0_3]) (ok := fun _ => True) (okp := fun _ => True) ?hr ?hp (fun _ hk => hk) trivial (Below.refl _ _) (Nat.le_refl _) (by simp) ?_; (case hd => rfl); (case hg => rfl); (case hr => first | (go_simp; done) | (go_simp; rfl)); (case hp => exact (Reps.one (show Kd.M (Kd.int .i64) _ _ _ a0_2 [.int .i64 a0_2] from rfl) (Reps.one (show Kd.M (Kd.int .i64) _ _ _ a0_3 [.int .i64 a0_3] from rfl) (Reps.none _ _)))); intro v113 w36 ho37 hb hg_ hnew_; clear hg_ hnew_; (first | rw [← Ny112.out] at ho37 | (simp only [Int.reduceToNat] at ho37; rw [← Ny112.out] at ho37)); have n0_ := Aside0.mk (Kd.R_elder' (by (with_reducible repeat (first | apply Kd.R_alloc | apply Kd.R_drewN | apply Kd.R_drew)); exact HO106.out) (Kd.R_base ho37) hb); have n1_ := Aside0.mk (Kd.R_elder' (by (with_reducible repeat (first | apply Kd.R_alloc | apply Kd.R_drewN | apply Kd.R_drew)); exact HO110.out) (Kd.R_base ho37) hb); have n2_ := Aside0.mk (Kd.R_lower (Kd.R_new' (Kd.R_new' ho37 (Kd.R_lt (by (with_reducible repeat (first | apply Kd.R_alloc | apply Kd.R_drewN | apply Kd.R_drew)); exact HO106.out))) (Kd.R_lt (by (with_reducible repeat (first | apply Kd.R_alloc | apply Kd.R_drewN | apply Kd.R_drew)); exact HO110.out))) (below_size (by repeat (first | (with_reducible first | exact HB.out | apply below_alloc | apply pw_below_drewN | apply below_drew1 | refine below_set ?_ GE103.out) | exact HB.out)))); have n3_ := Aside0.mk (blk_below (g := gb103) (o := .cells #[.int .i64 a0_0, .int .i64 a0_1, .int .i64 a0_2, .int .i64 a0_3, .int .i64 a0_4, .int .i64 a0_5, .int .i64 a0_6, .int .i64 a0_7, .int .i64 a0_8] 29 (0, 0)) (by (with_reducible repeat (first | refine blk_drewN ?_ _ | refine blk_drew ?_ | refine blk_alloc ?_ _)); exact BK103.out) hb); have n4_ := Aside0.mk (below_step (by repeat (first | (with_reducible first | exact HB.out | apply below_alloc | apply pw_below_drewN | apply below_drew1 | refine below_set ?_ GE103.out) | exact HB.out)) hb); clear HO106; clear HO110; clear BK103; clear HB; have HO106 := n0_; have HO110 := n1_; have HO114 := n2_; have BK103 := n3_; have HB := n4_; clear n0_ n1_ n2_ n3_ n4_; clear hb ho37; obtain ⟨Ao38, co38, eo38⟩ := Kd.R_slice HO114.out; subst eo38) | (go_at_call 96; (with_reducible refine (message_within.calls k 0 4611686018427387904 _ _ y112 false _ ?side1 ?side2 A6.out).mono ?_); (case side1 => repeat (first | exact (Kd.R_reads' HO114.out).2.2 | (with_reducible refine Kd.C_alloc ?_ _) | (with_reducible refine Kd.C_drewN ?_ _) | (with_reducible refine Kd.C_drew ?_))); (case side2 => exact (Kd.R_reads' HO114.out).2.1); rintro e w' ⟨rfl, ⟨nd, rfl⟩⟩))
        go_ret
        exact ⟨by first | rfl | (simp [errW_none, errW_some] <;> rfl) | (simp [*, errW_none, errW_some] <;> rfl), by repeat (first | (with_reducible first | exact HB.out | apply below_alloc | apply pw_below_drewN | apply below_drew1 | refine below_set ?_ GE103.out) | exact HB.out)⟩
    · replace c5 := Bool.eq_false_iff.mpr c5
      subst c5
      have H1 : (some false) = some r := by rw [if_neg (show ¬ (false = true) by decide)] at H; exact H
      clear H
      have H := H1
      clear H1
      obtain rfl := Option.some.inj H
      go_enter Try.func32, Try.ntmps32
      go_wp2_with (first | ((with_reducible refine gate_dst (N := 1) rfl ?_); (try (refine gate_guard (by rfl) ?_; dsimp only)); refine box_event ?hg (N := 1) ?hd (cs := #[.int .i64 a0_0, .int .i64 a0_1, .int .i64 a0_2, .int .i64 a0_3, .int .i64 a0_4, .int .i64 a0_5, .int .i64 a0_6, .int .i64 a0_7, .int .i64 a0_8]) (t := 29) ?hr ?_; (case hd => rfl); (case hg => rfl); (case hr => first | (go_simp; done) | (go_simp; rfl)); intro gb103 hg w39 hbox hb; have n0_ := Aside0.mk (below_step (by repeat (first | (with_reducible first | exact HB.out | apply below_alloc | apply pw_below_drewN | apply below_drew1) | exact HB.out)) hb); have n1_ := Aside0.mk (hbox); have n2_ := Aside0.mk ((by rw [hg]; exact (below_size (by repeat (first | (with_reducible first | exact HB.out | apply below_alloc | apply pw_below_drewN | apply below_drew1) | exact HB.out))) : w.heap.size ≤ gb103)); have n3_ := Aside0.mk ((by rw [hg]; exact (below_size (by repeat (first | (with_reducible first | exact HB.out | apply below_alloc | apply pw_below_drewN | apply below_drew1) | exact HB.out))) : w.heap.size ≤ gb103)); clear HB; have HB := n0_; have BK103 := n1_; have GW103 := n2_; have GE103 := n3_; clear n0_ n1_ n2_ n3_; clear hb hbox hg; have hcz40_0 : w39.cell? ⟨gb103, 0, none⟩ = some (.int .i64 a0_0) := (blk_cell BK103.out 0).trans rfl; have hcz40_1 : w39.cell? ⟨gb103, 1, none⟩ = some (.int .i64 a0_1) := (blk_cell BK103.out 1).trans rfl; have hcz40_2 : w39.cell? ⟨gb103, 2, none⟩ = some (.int .i64 a0_2) := (blk_cell BK103.out 2).trans rfl; have hcz40_3 : w39.cell? ⟨gb103, 3, none⟩ = some (.int .i64 a0_3) := (blk_cell BK103.out 3).trans rfl; have hcz40_4 : w39.cell? ⟨gb103, 4, none⟩ = some (.int .i64 a0_4) := (blk_cell BK103.out 4).trans rfl; have hcz40_5 : w39.cell? ⟨gb103, 5, none⟩ = some (.int .i64 a0_5) := (blk_cell BK103.out 5).trans rfl; have hcz40_6 : w39.cell? ⟨gb103, 6, none⟩ = some (.int .i64 a0_6) := (blk_cell BK103.out 6).trans rfl; have hcz40_7 : w39.cell? ⟨gb103, 7, none⟩ = some (.int .i64 a0_7) := (blk_cell BK103.out 7).trans rfl; have hcz40_8 : w39.cell? ⟨gb103, 8, none⟩ = some (.int .i64 a0_8) := (blk_cell BK103.out 8).trans rfl; have hfz40_0 := blk_frozen BK103.out 0; have hfz40_1 := blk_frozen BK103.out 1; have hfz40_2 := blk_frozen BK103.out 2; have hfz40_3 := blk_frozen BK103.out 3; have hfz40_4 := blk_frozen BK103.out 4; have hfz40_5 := blk_frozen BK103.out 5; have hfz40_6 := blk_frozen BK103.out 6; have hfz40_7 := blk_frozen BK103.out 7; have hfz40_8 := blk_frozen BK103.out 8) | ((with_reducible refine gate_dst (N := 5) rfl ?_); (try (refine gate_guard (by rfl) ?_; dsimp only)); refine Kd.R_lit (Kd.int .i64) _ 2 ?hg (N := 5) ?hd (xs := ([a0_0] : List Int)) (inner := [.int .i64 a0_0]) (ok := fun _ => True) (okp := fun _ => True) ?hr ?hp (fun _ hk => hk) trivial (Below.refl _ _) (Nat.le_refl _) (by simp) ?_; (case hd => rfl); (case hg => rfl); (case hr => first | (go_simp; done) | (go_simp; rfl)); (case hp => exact (Reps.one (show Kd.M (Kd.int .i64) _ _ _ a0_0 [.int .i64 a0_0] from rfl) (Reps.none _ _))); intro v105 w41 ho42 hb hg_ hnew_; clear hg_ hnew_; (first | rw [← Ny104.out] at ho42 | (simp only [Int.reduceToNat] at ho42; rw [← Ny104.out] at ho42)); have n0_ := Aside0.mk (Kd.R_lower ho42 (below_size (by repeat (first | (with_reducible first | exact HB.out | apply below_alloc | apply pw_below_drewN | apply below_drew1 | refine below_set ?_ GE103.out) | exact HB.out)))); have n1_ := Aside0.mk (blk_below (g := gb103) (o := .cells #[.int .i64 a0_0, .int .i64 a0_1, .int .i64 a0_2, .int .i64 a0_3, .int .i64 a0_4, .int .i64 a0_5, .int .i64 a0_6, .int .i64 a0_7, .int .i64 a0_8] 29 (0, 0)) (by (with_reducible repeat (first | refine blk_drewN ?_ _ | refine blk_drew ?_ | refine blk_alloc ?_ _)); exact BK103.out) hb); have n2_ := Aside0.mk (below_step (by repeat (first | (with_reducible first | exact HB.out | apply below_alloc | apply pw_below_drewN | apply below_drew1 | refine below_set ?_ GE103.out) | exact HB.out)) hb); clear BK103; clear HB; have HO106 := n0_; have BK103 := n1_; have HB := n2_; clear n0_ n1_ n2_; clear hb ho42; obtain ⟨Ao43, co43, eo43⟩ := Kd.R_slice HO106.out; subst eo43) | ((with_reducible refine gate_callee (f := 96) rfl ?_); refine goesL_ (some 6) rfl rfl Try.func96 (by kernel_rfl) rfl #[.int .i64 1, .int .i64 9, .slice Ao43 y104.length co43] rfl (by (try simp only [List.map_toArray, List.map_cons, List.map_nil]); first | done | rfl | (simp only [List.length_drop, List.length_take]; rfl)) ?_; (with_reducible refine (message_within.calls k 1 9 _ _ y104 true _ ?side1 ?side2 A2.out).mono ?_); (case side1 => repeat (first | exact (Kd.R_reads' HO106.out).2.2 | (with_reducible refine Kd.C_alloc ?_ _) | (with_reducible refine Kd.C_drewN ?_ _) | (with_reducible refine Kd.C_drew ?_))); (case side2 => exact (Kd.R_reads' HO106.out).2.1); rintro e w' ⟨rfl, ⟨nd, rfl⟩⟩; refine ⟨_, rfl, ?_⟩; have hcz44_0 : w41.cell? ⟨gb103, 0, none⟩ = some (.int .i64 a0_0) := (blk_cell BK103.out 0).trans rfl; have hcz44_1 : w41.cell? ⟨gb103, 1, none⟩ = some (.int .i64 a0_1) := (blk_cell BK103.out 1).trans rfl; have hcz44_2 : w41.cell? ⟨gb103, 2, none⟩ = some (.int .i64 a0_2) := (blk_cell BK103.out 2).trans rfl; have hcz44_3 : w41.cell? ⟨gb103, 3, none⟩ = some (.int .i64 a0_3) := (blk_cell BK103.out 3).trans rfl; have hcz44_4 : w41.cell? ⟨gb103, 4, none⟩ = some (.int .i64 a0_4) := (blk_cell BK103.out 4).trans rfl; have hcz44_5 : w41.cell? ⟨gb103, 5, none⟩ = some (.int .i64 a0_5) := (blk_cell BK103.out 5).trans rfl; have hcz44_6 : w41.cell? ⟨gb103, 6, none⟩ = some (.int .i64 a0_6) := (blk_cell BK103.out 6).trans rfl; have hcz44_7 : w41.cell? ⟨gb103, 7, none⟩ = some (.int .i64 a0_7) := (blk_cell BK103.out 7).trans rfl; have hcz44_8 : w41.cell? ⟨gb103, 8, none⟩ = some (.int .i64 a0_8) := (blk_cell BK103.out 8).trans rfl; have hfz44_0 := blk_frozen BK103.out 0; have hfz44_1 := blk_frozen BK103.out 1; have hfz44_2 := blk_frozen BK103.out 2; have hfz44_3 := blk_frozen BK103.out 3; have hfz44_4 := blk_frozen BK103.out 4; have hfz44_5 := blk_frozen BK103.out 5; have hfz44_6 := blk_frozen BK103.out 6; have hfz44_7 := blk_frozen BK103.out 7; have hfz44_8 := blk_frozen BK103.out 8) | ((with_reducible refine gate_dst (N := 12) rfl ?_); (try (refine gate_guard (by rfl) ?_; dsimp only)); refine Kd.R_lit (Kd.int .i64) _ 2 ?hg (N := 12) ?hd (xs := ([a0_1, a0_8] : List Int)) (inner := [.int .i64 a0_1, .int .i64 a0_8]) (ok := fun _ => True) (okp := fun _ => True) ?hr ?hp (fun _ hk => hk) trivial (Below.refl _ _) (Nat.le_refl _) (by simp) ?_; (case hd => rfl); (case hg => rfl); (case hr => first | (go_simp; done) | (go_simp; rfl)); (case hp => exact (Reps.one (show Kd.M (Kd.int .i64) _ _ _ a0_1 [.int .i64 a0_1] from rfl) (Reps.one (show Kd.M (Kd.int .i64) _ _ _ a0_8 [.int .i64 a0_8] from rfl) (Reps.none _ _)))); intro v109 w45 ho46 hb hg_ hnew_; clear hg_ hnew_; (first | rw [← Ny108.out] at ho46 | (simp only [Int.reduceToNat] at ho46; rw [← Ny108.out] at ho46)); have n0_ := Aside0.mk (Kd.R_elder' (by (with_reducible repeat (first | apply Kd.R_alloc | apply Kd.R_drewN | apply Kd.R_drew)); exact HO106.out) (Kd.R_base ho46) hb); have n1_ := Aside0.mk (Kd.R_lower (Kd.R_new' ho46 (Kd.R_lt (by (with_reducible repeat (first | apply Kd.R_alloc | apply Kd.R_drewN | apply Kd.R_drew)); exact HO106.out))) (below_size (by repeat (first | (with_reducible first | exact HB.out | apply below_alloc | apply pw_below_drewN | apply below_drew1 | refine below_set ?_ GE103.out) | exact HB.out)))); have n2_ := Aside0.mk (blk_below (g := gb103) (o := .cells #[.int .i64 a0_0, .int .i64 a0_1, .int .i64 a0_2, .int .i64 a0_3, .int .i64 a0_4, .int .i64 a0_5, .int .i64 a0_6, .int .i64 a0_7, .int .i64 a0_8] 29 (0, 0)) (by (with_reducible repeat (first | refine blk_drewN ?_ _ | refine blk_drew ?_ | refine blk_alloc ?_ _)); exact BK103.out) hb); have n3_ := Aside0.mk (below_step (by repeat (first | (with_reducible first | exact HB.out | apply below_alloc | apply pw_below_drewN | apply below_drew1 | refine below_set ?_ GE103.out) | exact HB.out)) hb); clear HO106; clear BK103; clear HB; have HO106 := n0_; have HO110 := n1_; have BK103 := n2_; have HB := n3_; clear n0_ n1_ n2_ n3_; clear hb ho46; obtain ⟨Ao47, co47, eo47⟩ := Kd.R_slice HO110.out; subst eo47) | (go_at_call 96; (with_reducible refine (message_within.calls k 0 255 _ _ y108 false _ ?side1 ?side2 A4.out).mono ?_); (case side1 => repeat (first | exact (Kd.R_reads' HO110.out).2.2 | (with_reducible refine Kd.C_alloc ?_ _) | (with_reducible refine Kd.C_drewN ?_ _) | (with_reducible refine Kd.C_drew ?_))); (case side2 => exact (Kd.R_reads' HO110.out).2.1); rintro e w' ⟨rfl, ⟨nd, rfl⟩⟩))
      go_ret
      exact ⟨by first | rfl | (simp [errW_none, errW_some] <;> rfl) | (simp [*, errW_none, errW_some] <;> rfl), by repeat (first | (with_reducible first | exact HB.out | apply below_alloc | apply pw_below_drewN | apply below_drew1 | refine below_set ?_ GE103.out) | exact HB.out)⟩
  · replace c3 := Bool.eq_false_iff.mpr c3
    subst c3
    have H1 : (some false) = some r := by rw [if_neg (show ¬ (false = true) by decide)] at H; exact H
    clear H
    have H := H1
    clear H1
    obtain rfl := Option.some.inj H
    go_enter Try.func32, Try.ntmps32
    go_wp2_with (first | ((with_reducible refine gate_dst (N := 1) rfl ?_); (try (refine gate_guard (by rfl) ?_; dsimp only)); refine box_event ?hg (N := 1) ?hd (cs := #[.int .i64 a0_0, .int .i64 a0_1, .int .i64 a0_2, .int .i64 a0_3, .int .i64 a0_4, .int .i64 a0_5, .int .i64 a0_6, .int .i64 a0_7, .int .i64 a0_8]) (t := 29) ?hr ?_; (case hd => rfl); (case hg => rfl); (case hr => first | (go_simp; done) | (go_simp; rfl)); intro gb103 hg w48 hbox hb; have n0_ := Aside0.mk (below_step (by repeat (first | (with_reducible first | exact HB.out | apply below_alloc | apply pw_below_drewN | apply below_drew1) | exact HB.out)) hb); have n1_ := Aside0.mk (hbox); have n2_ := Aside0.mk ((by rw [hg]; exact (below_size (by repeat (first | (with_reducible first | exact HB.out | apply below_alloc | apply pw_below_drewN | apply below_drew1) | exact HB.out))) : w.heap.size ≤ gb103)); have n3_ := Aside0.mk ((by rw [hg]; exact (below_size (by repeat (first | (with_reducible first | exact HB.out | apply below_alloc | apply pw_below_drewN | apply below_drew1) | exact HB.out))) : w.heap.size ≤ gb103)); clear HB; have HB := n0_; have BK103 := n1_; have GW103 := n2_; have GE103 := n3_; clear n0_ n1_ n2_ n3_; clear hb hbox hg; have hcz49_0 : w48.cell? ⟨gb103, 0, none⟩ = some (.int .i64 a0_0) := (blk_cell BK103.out 0).trans rfl; have hcz49_1 : w48.cell? ⟨gb103, 1, none⟩ = some (.int .i64 a0_1) := (blk_cell BK103.out 1).trans rfl; have hcz49_2 : w48.cell? ⟨gb103, 2, none⟩ = some (.int .i64 a0_2) := (blk_cell BK103.out 2).trans rfl; have hcz49_3 : w48.cell? ⟨gb103, 3, none⟩ = some (.int .i64 a0_3) := (blk_cell BK103.out 3).trans rfl; have hcz49_4 : w48.cell? ⟨gb103, 4, none⟩ = some (.int .i64 a0_4) := (blk_cell BK103.out 4).trans rfl; have hcz49_5 : w48.cell? ⟨gb103, 5, none⟩ = some (.int .i64 a0_5) := (blk_cell BK103.out 5).trans rfl; have hcz49_6 : w48.cell? ⟨gb103, 6, none⟩ = some (.int .i64 a0_6) := (blk_cell BK103.out 6).trans rfl; have hcz49_7 : w48.cell? ⟨gb103, 7, none⟩ = some (.int .i64 a0_7) := (blk_cell BK103.out 7).trans rfl; have hcz49_8 : w48.cell? ⟨gb103, 8, none⟩ = some (.int .i64 a0_8) := (blk_cell BK103.out 8).trans rfl; have hfz49_0 := blk_frozen BK103.out 0; have hfz49_1 := blk_frozen BK103.out 1; have hfz49_2 := blk_frozen BK103.out 2; have hfz49_3 := blk_frozen BK103.out 3; have hfz49_4 := blk_frozen BK103.out 4; have hfz49_5 := blk_frozen BK103.out 5; have hfz49_6 := blk_frozen BK103.out 6; have hfz49_7 := blk_frozen BK103.out 7; have hfz49_8 := blk_frozen BK103.out 8) | ((with_reducible refine gate_dst (N := 5) rfl ?_); (try (refine gate_guard (by rfl) ?_; dsimp only)); refine Kd.R_lit (Kd.int .i64) _ 2 ?hg (N := 5) ?hd (xs := ([a0_0] : List Int)) (inner := [.int .i64 a0_0]) (ok := fun _ => True) (okp := fun _ => True) ?hr ?hp (fun _ hk => hk) trivial (Below.refl _ _) (Nat.le_refl _) (by simp) ?_; (case hd => rfl); (case hg => rfl); (case hr => first | (go_simp; done) | (go_simp; rfl)); (case hp => exact (Reps.one (show Kd.M (Kd.int .i64) _ _ _ a0_0 [.int .i64 a0_0] from rfl) (Reps.none _ _))); intro v105 w50 ho51 hb hg_ hnew_; clear hg_ hnew_; (first | rw [← Ny104.out] at ho51 | (simp only [Int.reduceToNat] at ho51; rw [← Ny104.out] at ho51)); have n0_ := Aside0.mk (Kd.R_lower ho51 (below_size (by repeat (first | (with_reducible first | exact HB.out | apply below_alloc | apply pw_below_drewN | apply below_drew1 | refine below_set ?_ GE103.out) | exact HB.out)))); have n1_ := Aside0.mk (blk_below (g := gb103) (o := .cells #[.int .i64 a0_0, .int .i64 a0_1, .int .i64 a0_2, .int .i64 a0_3, .int .i64 a0_4, .int .i64 a0_5, .int .i64 a0_6, .int .i64 a0_7, .int .i64 a0_8] 29 (0, 0)) (by (with_reducible repeat (first | refine blk_drewN ?_ _ | refine blk_drew ?_ | refine blk_alloc ?_ _)); exact BK103.out) hb); have n2_ := Aside0.mk (below_step (by repeat (first | (with_reducible first | exact HB.out | apply below_alloc | apply pw_below_drewN | apply below_drew1 | refine below_set ?_ GE103.out) | exact HB.out)) hb); clear BK103; clear HB; have HO106 := n0_; have BK103 := n1_; have HB := n2_; clear n0_ n1_ n2_; clear hb ho51; obtain ⟨Ao52, co52, eo52⟩ := Kd.R_slice HO106.out; subst eo52) | ((with_reducible refine gate_callee (f := 96) rfl ?_); refine goesL_ (some 6) rfl rfl Try.func96 (by kernel_rfl) rfl #[.int .i64 1, .int .i64 9, .slice Ao52 y104.length co52] rfl (by (try simp only [List.map_toArray, List.map_cons, List.map_nil]); first | done | rfl | (simp only [List.length_drop, List.length_take]; rfl)) ?_; (with_reducible refine (message_within.calls k 1 9 _ _ y104 false _ ?side1 ?side2 A2.out).mono ?_); (case side1 => repeat (first | exact (Kd.R_reads' HO106.out).2.2 | (with_reducible refine Kd.C_alloc ?_ _) | (with_reducible refine Kd.C_drewN ?_ _) | (with_reducible refine Kd.C_drew ?_))); (case side2 => exact (Kd.R_reads' HO106.out).2.1); rintro e w' ⟨rfl, ⟨nd, rfl⟩⟩; refine ⟨_, rfl, ?_⟩))
    go_ret
    exact ⟨by first | rfl | (simp [errW_none, errW_some] <;> rfl) | (simp [*, errW_none, errW_some] <;> rfl), by repeat (first | (with_reducible first | exact HB.out | apply below_alloc | apply pw_below_drewN | apply below_drew1 | refine below_set ?_ GE103.out) | exact HB.out)⟩

end Go.Proofs.Ytalpemoodollpaa.P
/- Messages: which are right, their bytes. -/
namespace Go.Proofs.Ytalpemoodollpaa.P
open Go.RowKit Go.Proofs.YtalpemoodollpaaW.PrintWords Go.Proofs.YtalpemoodollpaaW.PrintLast Go.Proofs.YtalpemoodollpaaW.PrintMore
set_option linter.unusedVariables false
set_option linter.unusedSimpArgs false

def within_ (lo hi a : Int) : Bool := decide (lo ≤ a) && decide (a ≤ hi)
def msgRight (m : S29) : Bool :=
  within_ 1 9 m.f0 && within_ 0 255 m.f1 && within_ 0 255 m.f8 && within_ 0 4611686018427387904 m.f2 && within_ 0 4611686018427387904 m.f3 && within_ (-1) 4611686018427387904 m.f4 && within_ (-1) 4611686018427387904 m.f5
def i64B (a : Int) : Bool := within_ (-9223372036854775808) 9223372036854775807 a
def msgForm (m : S29) : List Int := [m.f0, m.f1, m.f8] ++ numForm m.f2.toNat ++ numForm m.f3.toNat ++ intForm m.f4 ++ intForm m.f5 ++ intForm m.f6 ++ intForm m.f7
theorem within_iff {lo hi a : Int} : within_ lo hi a = true ↔ lo ≤ a ∧ a ≤ hi := by simp [within_]
theorem wrap1 : wrap64 (0 + 1) = 1 := by rw [wrap64_eq]; omega
theorem wrap2 : wrap64 (1 + 1) = 2 := by rw [wrap64_eq]; omega
theorem within1 (lo hi a : Int) : message_within.f 4 lo hi [a] = some (within_ lo hi a) := by
  unfold message_within.f
  simp only [message_within.l0, wrap1, wrap2, rd, within_, List.length_cons, List.length_nil]
  by_cases h1 : a < lo
  · have h2 : ¬ lo ≤ a := by omega
    simp [h1, h2]
  · by_cases h3 : a > hi
    · have h2 : lo ≤ a := by omega
      have h4 : ¬ a ≤ hi := by omega
      simp [h1, h2, h3, h4]
    · have h2 : lo ≤ a := by omega
      have h4 : a ≤ hi := by omega
      simp [h1, h2, h3, h4]
theorem within2 (lo hi a b : Int) : message_within.f 4 lo hi [a, b] = some (within_ lo hi a && within_ lo hi b) := by
  unfold message_within.f
  simp only [message_within.l0, wrap1, wrap2, rd, within_, List.length_cons, List.length_nil]
  by_cases h1 : a < lo
  · have h2 : ¬ lo ≤ a := by omega
    simp [h1, h2]
  · by_cases h3 : a > hi
    · have h2 : lo ≤ a := by omega
      have h4 : ¬ a ≤ hi := by omega
      simp [h1, h2, h3, h4]
    · have h2 : lo ≤ a := by omega
      have h4 : a ≤ hi := by omega
      by_cases h5 : b < lo
      · have h6 : ¬ lo ≤ b := by omega
        simp [h1, h2, h3, h4, h5, h6]
      · by_cases h7 : b > hi
        · have h6 : lo ≤ b := by omega
          have h8 : ¬ b ≤ hi := by omega
          simp [h1, h2, h3, h4, h5, h6, h7, h8]
        · have h6 : lo ≤ b := by omega
          have h8 : b ≤ hi := by omega
          simp [h1, h2, h3, h4, h5, h6, h7, h8]
theorem msgRight_f (m : S29) : message_Right.f 4 m.f0 m.f1 m.f2 m.f3 m.f4 m.f5 m.f6 m.f7 m.f8 = some (msgRight m) := by
  unfold message_Right.f msgRight
  rw [within1, within2, within2, within2]
  simp only [Option.bind_some]
  cases within_ 1 9 m.f0 <;> cases within_ 0 255 m.f1 <;> cases within_ 0 255 m.f8 <;> cases within_ 0 4611686018427387904 m.f2 <;> cases within_ 0 4611686018427387904 m.f3 <;> simp
def msgVal (m : S29) : Value := .agg #[.int .i64 m.f0, .int .i64 m.f1, .int .i64 m.f2, .int .i64 m.f3, .int .i64 m.f4, .int .i64 m.f5, .int .i64 m.f6, .int .i64 m.f7, .int .i64 m.f8]
theorem msgRight_calls (m : S29) (w : World) : Calls Try.prog 32 #[.agg #[.int .i64 m.f0, .int .i64 m.f1, .int .i64 m.f2, .int .i64 m.f3, .int .i64 m.f4, .int .i64 m.f5, .int .i64 m.f6, .int .i64 m.f7, .int .i64 m.f8]] w fun e w' => e = .returned (.bool (msgRight m)) ∧ Below w.heap.size w w' :=
  message_Right.calls 4 _ _ _ _ _ _ _ _ _ _ w (msgRight_f m)
theorem msgForm_length (m : S29) (h : msgRight m = true) : (msgForm m).length ≤ 55 ∧ 37 ≤ (msgForm m).length := by
  simp only [msgRight, Bool.and_eq_true, within_iff] at h
  have h2 := numForm_ten m.f2 (by omega)
  have h3 := numForm_ten m.f3 (by omega)
  have p2 := numForm_pos m.f2.toNat
  have p3 := numForm_pos m.f3.toNat
  simp only [msgForm, List.length_append, List.length_cons, List.length_nil, intForm_length]
  omega
theorem msgForm_byt (m : S29) (h : msgRight m = true) : Byt (msgForm m) := by
  simp only [msgRight, Bool.and_eq_true, within_iff] at h
  unfold msgForm
  refine ((((((Byt.append ?_ (numForm_byt _)).append (numForm_byt _)).append (intForm_byt _)).append (intForm_byt _)).append (intForm_byt _)).append (intForm_byt _))
  exact Byt.mk (by omega) (Byt.mk (by omega) (Byt.mk (by omega) Byt.nil))
end Go.Proofs.Ytalpemoodollpaa.P
/- The contract of message.Decode. -/
namespace Go.Proofs.Ytalpemoodollpaa.P
open Go.RowKit Go.Proofs.YtalpemoodollpaaW.PrintWords Go.Proofs.YtalpemoodollpaaW.PrintLast Go.Proofs.YtalpemoodollpaaW.PrintMore
set_option linter.unusedVariables false
set_option linter.unusedSimpArgs false
attribute [local go_sem] max2_int min2_int max_two min_two
/-- The end of a decoding: the fault, or the message. -/
def msgFin (k sym seq tick id wi price qty code : Int) (s : List Int × Int) : S29 × Int :=
  if s.2 ≠ 0 then (⟨0, 0, 0, 0, 0, 0, 0, 0, 0⟩, s.2)
  else if 0 < s.1.length ∨ msgRight ⟨k, sym, mn seq 4611686018427387905, mn tick 4611686018427387905, id, wi, price, qty, code⟩ = false then (⟨0, 0, 0, 0, 0, 0, 0, 0, 0⟩, 4)
  else (⟨k, sym, mn seq 4611686018427387905, mn tick 4611686018427387905, id, wi, price, qty, code⟩, 0)
def msgTail (k sym code seq tick : Int) (s : List Int × Int) : S29 × Int :=
  msgFin k sym seq tick (unzig (rUint s 8).1) (unzig (rUint (rUint s 8).2 8).1) (unzig (rUint (rUint (rUint s 8).2 8).2 8).1) (unzig (rUint (rUint (rUint (rUint s 8).2 8).2 8).2 8).1) code (rUint (rUint (rUint (rUint s 8).2 8).2 8).2 8).2
def msgMid (k sym code : Int) (s : List Int × Int) : S29 × Int := msgTail k sym code (rNum s).1 (rNum (rNum s).2).1 (rNum (rNum s).2).2
def msgDec (b : List Int) : S29 × Int :=
  msgMid (rUint (b, 0) 1).1 (rUint (rUint (b, 0) 1).2 1).1 (rUint (rUint (rUint (b, 0) 1).2 1).2 1).1 (rUint (rUint (rUint (b, 0) 1).2 1).2 1).2
/-- 'one': a byte. -/
theorem RK.oneM {w0 W : World} {lo g b : Nat} {s : List Int × Int} (h : RK w0 W lo g s) (hc : W.cell? ⟨b, 0, none⟩ = some (.pointer (some ⟨g, 0, none⟩))) :
    Calls Try.prog 125 #[.pointer (some ⟨b, 0, none⟩)] W fun e w' => e = .returned (.int .i64 (rUint s 1).1) ∧ RK w0 w' lo g (rUint s 1).2 ∧ KeepG W w' g := by
  have hr := rUint1_range s h.byt
  have HT := Aside0.mk (h.uint 1)
  clear h
  generalize rUint s 1 = T at *
  obtain ⟨n, s1⟩ := T
  dsimp only at hr
  have h1 := hr.1
  have h2 := hr.2
  clear hr
  go_enter Try.func125, Try.ntmps125
  go_wp2_with fail
  refine HT.out.mono ?_
  rintro e w' ⟨rfl, hk, hg⟩
  have HK := Aside0.mk hk
  have HG := Aside0.mk hg
  clear hk hg
  go_wp2
  go_ret
  exact ⟨rfl, HK.out, HG.out⟩
theorem DS.oneM {w W : World} {t b4 g lo : Nat} {s : List Int × Int} {x0 x1 x2 x3 x4 x5 x6 x7 x8 : Int} (h : DS w W t b4 g lo s x0 x1 x2 x3 x4 x5 x6 x7 x8) :
    Calls Try.prog 125 #[.pointer (some ⟨b4, 0, none⟩)] W fun e w' => e = .returned (.int .i64 (rUint s 1).1) ∧ DS w w' t b4 g lo (rUint s 1).2 x0 x1 x2 x3 x4 x5 x6 x7 x8 :=
  (h.rk.oneM h.cell).mono fun e w' ⟨he, hk, kg⟩ => ⟨he, h.step hk kg⟩
set_option maxRecDepth 100000 in
set_option maxHeartbeats 2000000 in
theorem msgDec_calls (A0 : Option Addr) (c0 : Nat) (b : List Int) (w : World) (hr0 : Kd.C (Kd.int .u8) w A0 b.length b) (hl : b.length ≤ 140737488355328) (hb : Byt b) :
    Calls Try.prog 80 #[.slice A0 b.length c0] w fun e w' => e = .returned (.tuple #[.agg #[.int .i64 (msgDec b).1.f0, .int .i64 (msgDec b).1.f1, .int .i64 (msgDec b).1.f2, .int .i64 (msgDec b).1.f3, .int .i64 (msgDec b).1.f4, .int .i64 (msgDec b).1.f5, .int .i64 (msgDec b).1.f6, .int .i64 (msgDec b).1.f7, .int .i64 (msgDec b).1.f8], .int .i64 (msgDec b).2]) ∧ Below w.heap.size w w' := by
  have hu29 := Try.underlying29
  have HR := Aside0.mk hr0
  have HY := Aside0.mk hb
  clear hr0 hb
  generalize hG : msgDec b = G
  unfold msgDec msgMid msgTail at hG
  have HG := Aside0.mk hG
  clear hG
  have B0 := Aside0.mk (below_alloc (Below.refl w.heap.size w) (.cells #[.int .i64 0, .int .i64 0, .int .i64 0, .int .i64 0, .int .i64 0, .int .i64 0, .int .i64 0, .int .i64 0, .int .i64 0] 29))
  have BX0 := Aside0.mk (show Box9 (w.alloc (.cells #[.int .i64 0, .int .i64 0, .int .i64 0, .int .i64 0, .int .i64 0, .int .i64 0, .int .i64 0, .int .i64 0, .int .i64 0] 29)) 29 w.heap.size 0 0 0 0 0 0 0 0 0 from blk_new w _)
  go_enter Try.func80, Try.ntmps80
  go_wp2_with fail
  refine (RK.new (w0 := w) A0 c0 b B0.out (Kd.C_below HR.out B0.out) hl HY.out).mono ?_
  rintro e w1 ⟨g, rfl, hk, hb1⟩
  have BX1 := Aside0.mk (show Box9 w1 29 w.heap.size 0 0 0 0 0 0 0 0 0 from (hb1.block _ (by simp)).trans BX0.out)
  have D1 := Aside0.mk (show DS w (w1.alloc (.cells #[.pointer (some ⟨g, 0, none⟩)] 78)) 29 w1.heap.size g (w.heap.size + 1) (b, 0) 0 0 0 0 0 0 0 0 0 from by
    have hk2 := hk
    rw [World.size_alloc] at hk2
    have hk3 := hk2.alloc (.cells #[.pointer (some ⟨g, 0, none⟩)] 78)
    have := hk2.lt
    have := hb1.size
    rw [World.size_alloc] at this
    exact ⟨hk3, blk_alloc BX1.out _, blk_new w1 _, by omega, by omega, by omega⟩)
  clear hk hb1
  go_wp2_with fail
  generalize (w1.alloc (.cells #[.pointer (some ⟨g, 0, none⟩)] 78)) = w2 at *
  generalize hb4 : w1.heap.size = b4 at *
  clear hb4
  obtain ⟨lo, hlo⟩ : ∃ lo, lo = w.heap.size + 1 := ⟨_, rfl⟩
  rw [← hlo] at D1
  clear hlo BX1 BX0 B0 HY HR hl
  have CX := Aside0.mk (DS.oneM D1.out)
  have CR := rUint1_range _ D1.out.rk.byt
  generalize rUint (b, 0) 1 = T at *
  obtain ⟨k, s1⟩ := T
  try dsimp only at *
  have kr := Aside0.mk CR
  clear CR
  refine CX.out.mono ?_
  rintro e w2 ⟨rfl, hd⟩
  have Dw2 := Aside0.mk hd
  clear hd CX
  obtain ⟨c0, c1, c2, c3, c4, c5, c6, c7, c8⟩ := Dw2.out.bx.cells
  obtain ⟨z0, z1, z2, z3, z4, z5, z6, z7, z8⟩ := Dw2.out.frozen
  have cp := Dw2.out.cell
  go_wp2_with fail
  clear c0 c1 c2 c3 c4 c5 c6 c7 c8 z0 z1 z2 z3 z4 z5 z6 z7 z8 cp
  have CX := Aside0.mk (DS.oneM Dw2.out)
  have CR := rUint1_range _ Dw2.out.rk.byt
  generalize rUint s1 1 = T at *
  obtain ⟨sym, s2⟩ := T
  try dsimp only at *
  have symr := Aside0.mk CR
  clear CR
  refine CX.out.mono ?_
  rintro e w3 ⟨rfl, hd⟩
  have Dw3 := Aside0.mk hd
  clear hd CX
  obtain ⟨c0, c1, c2, c3, c4, c5, c6, c7, c8⟩ := Dw3.out.bx.cells
  obtain ⟨z0, z1, z2, z3, z4, z5, z6, z7, z8⟩ := Dw3.out.frozen
  have cp := Dw3.out.cell
  go_wp2_with fail
  clear c0 c1 c2 c3 c4 c5 c6 c7 c8 z0 z1 z2 z3 z4 z5 z6 z7 z8 cp
  have CX := Aside0.mk (DS.oneM Dw3.out)
  have CR := rUint1_range _ Dw3.out.rk.byt
  generalize rUint s2 1 = T at *
  obtain ⟨code, s3⟩ := T
  try dsimp only at *
  have coder := Aside0.mk CR
  clear CR
  refine CX.out.mono ?_
  rintro e w4 ⟨rfl, hd⟩
  have Dw4 := Aside0.mk hd
  clear hd CX
  have D5 := Aside0.mk (((Dw4.out.set0 k).set1 sym).set8 code)
  obtain ⟨c0, c1, c2, c3, c4, c5, c6, c7, c8⟩ := Dw4.out.bx.cells
  obtain ⟨z0, z1, z2, z3, z4, z5, z6, z7, z8⟩ := Dw4.out.frozen
  have cp := Dw4.out.cell
  obtain ⟨e0, e1, e2, e3, e4, e5, e6, e7, e8⟩ := D5.out.bx.cells
  have ep := D5.out.cell
  go_wp2
  clear e0 e1 e2 e3 e4 e5 e6 e7 e8 ep
  clear c0 c1 c2 c3 c4 c5 c6 c7 c8 z0 z1 z2 z3 z4 z5 z6 z7 z8 cp
  generalize (((w4.setCell ⟨w.heap.size, 0, none⟩ (.int .i64 k)).setCell ⟨w.heap.size, 1, none⟩ (.int .i64 sym)).setCell ⟨w.heap.size, 8, none⟩ (.int .i64 code)) = w5 at *
  obtain ⟨c0, c1, c2, c3, c4, c5, c6, c7, c8⟩ := D5.out.bx.cells
  obtain ⟨z0, z1, z2, z3, z4, z5, z6, z7, z8⟩ := D5.out.frozen
  have cp := D5.out.cell
  have D5d := Aside0.mk (D5.out.below (Below.refl _ _).drew)
  go_region_held3 (fun w' => w'.cell? ⟨b4, 0, none⟩ = some (.pointer (some ⟨g, 0, none⟩))) (first | assumption | go_keep)
    (first | (go_at_call 100; (with_reducible refine (D6.out.num).mono ?_); rintro e w7 ⟨rfl, hd⟩; have D7 := Aside0.mk hd; have cp7 := hd.cell; clear hd) | (go_at_call 100; (with_reducible refine (D5d.out.num).mono ?_); rintro e w6 ⟨rfl, hd⟩; have D6 := Aside0.mk hd; have cp6 := hd.cell; clear hd))
  clear c0 c1 c2 c3 c4 c5 c6 c7 c8 z0 z1 z2 z3 z4 z5 z6 z7 z8 cp
  go_wp2_with fail
  have seqr := Aside0.mk (rNum_range s3 D5.out.rk.byt)
  have CB := byt_rNum s3 D5.out.rk.byt
  generalize rNum s3 = T at *
  obtain ⟨sq, s4⟩ := T
  try dsimp only at *
  have tckr := Aside0.mk (rNum_range s4 CB)
  clear CB
  generalize rNum s4 = T at *
  obtain ⟨tk, s5⟩ := T
  try dsimp only at *
  have CX := Aside0.mk (D7.out.int)
  have CR := rUint_range _ 8 D7.out.rk.byt
  generalize rUint s5 8 = T at *
  obtain ⟨a4, s6⟩ := T
  try dsimp only at *
  have a4r := Aside0.mk CR
  clear CR
  refine CX.out.mono ?_
  rintro e w8 ⟨rfl, hd⟩
  have Dw8 := Aside0.mk hd
  clear hd CX
  obtain ⟨c0, c1, c2, c3, c4, c5, c6, c7, c8⟩ := Dw8.out.bx.cells
  obtain ⟨z0, z1, z2, z3, z4, z5, z6, z7, z8⟩ := Dw8.out.frozen
  have cp := Dw8.out.cell
  go_wp2_with fail
  clear c0 c1 c2 c3 c4 c5 c6 c7 c8 z0 z1 z2 z3 z4 z5 z6 z7 z8 cp
  have CX := Aside0.mk (Dw8.out.int)
  have CR := rUint_range _ 8 Dw8.out.rk.byt
  generalize rUint s6 8 = T at *
  obtain ⟨a5, s7⟩ := T
  try dsimp only at *
  have a5r := Aside0.mk CR
  clear CR
  refine CX.out.mono ?_
  rintro e w9 ⟨rfl, hd⟩
  have Dw9 := Aside0.mk hd
  clear hd CX
  obtain ⟨c0, c1, c2, c3, c4, c5, c6, c7, c8⟩ := Dw9.out.bx.cells
  obtain ⟨z0, z1, z2, z3, z4, z5, z6, z7, z8⟩ := Dw9.out.frozen
  have cp := Dw9.out.cell
  go_wp2_with fail
  clear c0 c1 c2 c3 c4 c5 c6 c7 c8 z0 z1 z2 z3 z4 z5 z6 z7 z8 cp
  have CX := Aside0.mk (Dw9.out.int)
  have CR := rUint_range _ 8 Dw9.out.rk.byt
  generalize rUint s7 8 = T at *
  obtain ⟨a6, s8⟩ := T
  try dsimp only at *
  have a6r := Aside0.mk CR
  clear CR
  refine CX.out.mono ?_
  rintro e w10 ⟨rfl, hd⟩
  have Dw10 := Aside0.mk hd
  clear hd CX
  obtain ⟨c0, c1, c2, c3, c4, c5, c6, c7, c8⟩ := Dw10.out.bx.cells
  obtain ⟨z0, z1, z2, z3, z4, z5, z6, z7, z8⟩ := Dw10.out.frozen
  have cp := Dw10.out.cell
  go_wp2_with fail
  clear c0 c1 c2 c3 c4 c5 c6 c7 c8 z0 z1 z2 z3 z4 z5 z6 z7 z8 cp
  have CX := Aside0.mk (Dw10.out.int)
  have CR := rUint_range _ 8 Dw10.out.rk.byt
  generalize rUint s8 8 = T at *
  obtain ⟨a7, s9⟩ := T
  try dsimp only at *
  have a7r := Aside0.mk CR
  clear CR
  refine CX.out.mono ?_
  rintro e w11 ⟨rfl, hd⟩
  have Dw11 := Aside0.mk hd
  clear hd CX
  generalize unzig a4 = q4 at *
  generalize unzig a5 = q5 at *
  generalize unzig a6 = q6 at *
  generalize unzig a7 = q7 at *
  have DB := Aside0.mk ((((Dw11.out.set4 q4).set5 q5).set6 q6).set7 q7)
  obtain ⟨c0, c1, c2, c3, c4, c5, c6, c7, c8⟩ := Dw11.out.bx.cells
  obtain ⟨z0, z1, z2, z3, z4, z5, z6, z7, z8⟩ := Dw11.out.frozen
  have cp := Dw11.out.cell
  obtain ⟨e0, e1, e2, e3, e4, e5, e6, e7, e8⟩ := DB.out.bx.cells
  have ep := DB.out.cell
  obtain ⟨ls, fs⟩ := s9
  have FY := Aside0.mk DB.out.rk.fault
  try dsimp only at *
  go_wp2_with fail
  clear e0 e1 e2 e3 e4 e5 e6 e7 e8 ep
  clear c0 c1 c2 c3 c4 c5 c6 c7 c8 z0 z1 z2 z3 z4 z5 z6 z7 z8 cp
  generalize ((((w11.setCell ⟨w.heap.size, 4, none⟩ (.int .i64 q4)).setCell ⟨w.heap.size, 5, none⟩ (.int .i64 q5)).setCell ⟨w.heap.size, 6, none⟩ (.int .i64 q6)).setCell ⟨w.heap.size, 7, none⟩ (.int .i64 q7)) = wB at *
  try dsimp only at FY
  obtain ⟨c0, c1, c2, c3, c4, c5, c6, c7, c8⟩ := DB.out.bx.cells
  obtain ⟨z0, z1, z2, z3, z4, z5, z6, z7, z8⟩ := DB.out.frozen
  have cp := DB.out.cell
  refine FY.out.mono ?_
  rintro e wf ⟨rfl, rfl⟩
  dsimp only
  unfold msgFin at HG
  try dsimp only at HG
  by_cases hf : fs = 0
  · subst hf
    rw [if_neg (by decide)] at HG
    obtain ⟨m1, hm1⟩ : ∃ m, (if 4611686018427387905 < sq then 4611686018427387905 else sq) = m := ⟨_, rfl⟩
    have HM1 := Aside0.mk (show mn sq 4611686018427387905 = m1 from hm1)
    have hb1 : 0 ≤ m1 ∧ m1 ≤ 4611686018427387905 := by have := seqr.out; rw [← hm1]; split <;> omega
    have hb1a := hb1.1
    have hb1b := hb1.2
    clear hb1
    obtain ⟨m2, hm2⟩ : ∃ m, (if 4611686018427387905 < tk then 4611686018427387905 else tk) = m := ⟨_, rfl⟩
    have HM2 := Aside0.mk (show mn tk 4611686018427387905 = m2 from hm2)
    have hb2 : 0 ≤ m2 ∧ m2 ≤ 4611686018427387905 := by have := tckr.out; rw [← hm2]; split <;> omega
    have hb2a := hb2.1
    have hb2b := hb2.2
    clear hb2
    rw [HM1.out, HM2.out] at HG
    have DN := Aside0.mk ((DB.out.set2 m1).set3 m2)
    have LX := Aside0.mk DN.out.rk.left
    dsimp only at LX
    clear c0 c1 c2 c3 c4 c5 c6 c7 c8 z0 z1 z2 z3 z4 z5 z6 z7 z8 cp
    obtain ⟨c0, c1, c2, c3, c4, c5, c6, c7, c8⟩ := DB.out.bx.cells
    obtain ⟨z0, z1, z2, z3, z4, z5, z6, z7, z8⟩ := DB.out.frozen
    have cp := DB.out.cell
    obtain ⟨d0, d1, d2, d3, d4, d5, d6, d7, d8⟩ := DN.out.bx.cells
    have dp := DN.out.cell
    go_wp2_with fail
    clear hm1 hm2
    refine LX.out.mono ?_
    rintro e wg ⟨rfl, rfl⟩
    dsimp only
    obtain ⟨lm, hlm⟩ : ∃ m : Int, (ls.length : Int) = m := ⟨_, rfl⟩
    rw [hlm]
    have HLM := Aside0.mk hlm
    clear hlm
    clear d0 d1 d2 d3 d4 d5 d6 d7 d8 dp
    clear c0 c1 c2 c3 c4 c5 c6 c7 c8 z0 z1 z2 z3 z4 z5 z6 z7 z8 cp
    generalize ((wB.setCell ⟨w.heap.size, 2, none⟩ (.int .i64 m1)).setCell ⟨w.heap.size, 3, none⟩ (.int .i64 m2)) = wn at *
    have RX := Aside0.mk (msgRight_calls ⟨k, sym, m1, m2, q4, q5, q6, q7, code⟩ wn)
    dsimp only at RX
    have DZ := Aside0.mk ((((((((((DN.out.set0 0).set1 0).set2 0).set3 0).set4 0).set5 0).set6 0).set7 0).set8 0))
    obtain ⟨c0, c1, c2, c3, c4, c5, c6, c7, c8⟩ := DN.out.bx.cells
    obtain ⟨z0, z1, z2, z3, z4, z5, z6, z7, z8⟩ := DN.out.frozen
    have cp := DN.out.cell
    by_cases hl : 0 < lm
    · rw [if_pos (.inl (by have := HLM.out; omega))] at HG
      have hll : decide (0 < lm) = true := by simpa using hl
      obtain rfl := HG.out
      go_wp2
      exact bodyPost_ret (results_ct (fn := Try.f80) (p := 2) (u := 3) (ty := 29) rfl _ _ w.heap.size 29 #[.int .i64 0, .int .i64 0, .int .i64 0, .int .i64 0, .int .i64 0, .int .i64 0, .int .i64 0, .int .i64 0, .int .i64 0] (0, 0) _ rfl DZ.out.bx Try.underlying29 rfl (by kernel_rfl)) rfl ⟨rfl, DZ.out.rk.bel⟩
    · have hll : decide (0 < lm) = false := by simpa using hl
      have HLN : Aside0 (¬ 0 < ls.length) := ⟨by have := HLM.out; omega⟩
      clear hl
      go_wp2_with fail
      refine RX.out.mono ?_
      rintro e wr ⟨rfl, hbr⟩
      have DR := Aside0.mk (DN.out.below (Below.mono hbr (Nat.le_refl _)))
      have DY := Aside0.mk ((((((((((DR.out.set0 0).set1 0).set2 0).set3 0).set4 0).set5 0).set6 0).set7 0).set8 0))
      have DW := Aside0.mk (((((((((DR.out.set0 (k)).set1 (sym)).set2 (m1)).set3 (m2)).set4 (q4)).set5 (q5)).set6 (q6)).set7 (q7)).set8 (code))
      clear hbr
      clear c0 c1 c2 c3 c4 c5 c6 c7 c8 z0 z1 z2 z3 z4 z5 z6 z7 z8 cp
      obtain ⟨c0, c1, c2, c3, c4, c5, c6, c7, c8⟩ := DR.out.bx.cells
      obtain ⟨z0, z1, z2, z3, z4, z5, z6, z7, z8⟩ := DR.out.frozen
      have cp := DR.out.cell
      cases hr : msgRight ⟨k, sym, m1, m2, q4, q5, q6, q7, code⟩ with
      | false =>
        rw [if_pos (.inr hr)] at HG
        obtain rfl := HG.out
        go_wp2
        exact bodyPost_ret (results_ct (fn := Try.f80) (p := 2) (u := 3) (ty := 29) rfl _ _ w.heap.size 29 #[.int .i64 0, .int .i64 0, .int .i64 0, .int .i64 0, .int .i64 0, .int .i64 0, .int .i64 0, .int .i64 0, .int .i64 0] (0, 0) _ rfl DY.out.bx Try.underlying29 rfl (by kernel_rfl)) rfl ⟨rfl, DY.out.rk.bel⟩
      | true =>
        rw [if_neg (by intro h; rcases h with h | h; exact HLN.out h; rw [hr] at h; cases h)] at HG
        obtain rfl := HG.out
        go_wp2
        exact bodyPost_ret (results_ct (fn := Try.f80) (p := 2) (u := 3) (ty := 29) rfl _ _ w.heap.size 29 #[.int .i64 k, .int .i64 sym, .int .i64 m1, .int .i64 m2, .int .i64 q4, .int .i64 q5, .int .i64 q6, .int .i64 q7, .int .i64 code] (0, 0) _ rfl DW.out.bx Try.underlying29 rfl (by kernel_rfl)) rfl ⟨rfl, DW.out.rk.bel⟩
  · rw [if_pos (by simpa using hf)] at HG
    have hff : (fs != 0) = true := by simpa using hf
    clear hf
    have DZ := Aside0.mk ((((((((((DB.out.set0 0).set1 0).set2 0).set3 0).set4 0).set5 0).set6 0).set7 0).set8 0))
    obtain rfl := HG.out
    go_wp2
    exact bodyPost_ret (results_ct (fn := Try.f80) (p := 2) (u := 3) (ty := 29) rfl _ _ w.heap.size 29 #[.int .i64 0, .int .i64 0, .int .i64 0, .int .i64 0, .int .i64 0, .int .i64 0, .int .i64 0, .int .i64 0, .int .i64 0] (0, 0) _ rfl DZ.out.bx Try.underlying29 rfl (by kernel_rfl)) rfl ⟨rfl, DZ.out.rk.bel⟩
def message_Decode.f (l0 : List Int) : Option (Int × Int × Int × Int × Int × Int × Int × Int × Int × Int) :=
  if bytB l0 = true ∧ l0.length ≤ 140737488355328 then some ((msgDec l0).1.f0, (msgDec l0).1.f1, (msgDec l0).1.f2, (msgDec l0).1.f3, (msgDec l0).1.f4, (msgDec l0).1.f5, (msgDec l0).1.f6, (msgDec l0).1.f7, (msgDec l0).1.f8, (msgDec l0).2) else none
theorem message_Decode.calls (A0 : Option Addr) (c0 : Nat) (l0 : List Int) (r1 r2 r3 r4 r5 r6 r7 r8 r9 r10 : Int) (w : World) (hr0 : Kd.C (Kd.int .u8) w A0 l0.length l0) (hc0 : l0.length ≤ c0) (h : message_Decode.f l0 = some (r1, r2, r3, r4, r5, r6, r7, r8, r9, r10)) :
    Calls Try.prog 80 #[.slice A0 l0.length c0] w fun e w' => e = .returned (.tuple #[.agg #[.int .i64 r1, .int .i64 r2, .int .i64 r3, .int .i64 r4, .int .i64 r5, .int .i64 r6, .int .i64 r7, .int .i64 r8, .int .i64 r9], .int .i64 r10]) ∧ Below w.heap.size w w' := by
  unfold message_Decode.f at h
  by_cases hp : bytB l0 = true ∧ l0.length ≤ 140737488355328
  · rw [if_pos hp] at h
    have h := Option.some.inj h
    simp only [Prod.mk.injEq] at h
    obtain ⟨rfl, rfl, rfl, rfl, rfl, rfl, rfl, rfl, rfl, rfl⟩ := h
    exact msgDec_calls A0 c0 l0 w hr0 hp.2 (byt_of hp.1)
  · rw [if_neg hp] at h
    cases h
end Go.Proofs.Ytalpemoodollpaa.P
/- The messages of any bytes, plain. -/
namespace Go.Proofs.Ytalpemoodollpaa.P
open Go.RowKit Go.Proofs.YtalpemoodollpaaW.PrintWords Go.Proofs.YtalpemoodollpaaW.PrintLast Go.Proofs.YtalpemoodollpaaW.PrintMore
set_option linter.unusedVariables false
/-- The first fault among payloads; 0: none. -/
def firstBad : List (List Int) → Int
  | [] => 0
  | p :: ps => if (msgDec p).2 ≠ 0 then (msgDec p).2 else firstBad ps
def msgsOf (ps : List (List Int)) : List S29 := ps.map fun p => (msgDec p).1
def msgAll (l : List Int) : List S29 × Int :=
  if firstBad (frames l).1 ≠ 0 then ([], firstBad (frames l).1) else if (frames l).2.2 ≠ 0 then ([], (frames l).2.2) else (msgsOf (frames l).1, 0)
theorem firstBad_app (a b : List (List Int)) (h : firstBad a = 0) : firstBad (a ++ b) = firstBad b := by
  induction a with
  | nil => rfl
  | cons p a ih =>
    by_cases hp : (msgDec p).2 ≠ 0
    · rw [firstBad, if_pos hp] at h; exact absurd h hp
    · rw [firstBad, if_neg hp] at h
      rw [List.cons_append, firstBad, if_neg hp, ih h]
theorem firstBad_snoc {a : List (List Int)} {p : List Int} (h : firstBad a = 0) (hp : (msgDec p).2 = 0) : firstBad (a ++ [p]) = 0 := by
  rw [firstBad_app a _ h, firstBad, if_neg (by simpa using hp), firstBad]
theorem firstBad_stop {a F : List (List Int)} {p : List Int} (h : firstBad a = 0) (hp : (msgDec p).2 ≠ 0) (hF : a ++ [p] <+: F) : firstBad F = (msgDec p).2 := by
  obtain ⟨r, rfl⟩ := hF
  rw [List.append_assoc, firstBad_app a _ h, List.singleton_append, firstBad, if_pos hp]
theorem msgsOf_snoc (a : List (List Int)) (p : List Int) : msgsOf (a ++ [p]) = msgsOf a ++ [(msgDec p).1] := by simp [msgsOf]
theorem msgsOf_length (a : List (List Int)) : (msgsOf a).length = a.length := by simp [msgsOf]
theorem frames_last (k : Nat) : ∀ l : List Int, l.length ≤ k → Byt l → (frames l).2.1 = total (frames l).1 ∧ ((frames l).2.1 = l.length → (frames l).2.2 = 0) ∧
    ((frames l).2.1 < l.length → (takeF (l.drop (frames l).2.1)).2.2 = (frames l).2.2 ∧ (frames l).2.2 ≠ 0) := by
  induction k with
  | zero =>
    intro l hl hb
    have : l = [] := List.length_eq_zero_iff.1 (by omega)
    subst this
    rw [frames_nil]
    exact ⟨rfl, fun _ => rfl, fun h => absurd h (by simp)⟩
  | succ k ih =>
    intro l hl hb
    by_cases h : (takeF l).2.2 = 0
    · obtain ⟨p, n, hf⟩ := FT.mk' hb h
      have h1 := hf.len
      have h2 := hf.two
      have h3 := hf.pn
      have hd : (l.drop n).length = l.length - n := List.length_drop
      obtain ⟨i1, i2, i3⟩ := ih (l.drop n) (by omega) (hb.drop n)
      rw [hf.frames]
      dsimp only
      refine ⟨by rw [total, i1, ← h3], fun e => i2 (by omega), fun e => ?_⟩
      have := i3 (by omega)
      rw [List.drop_drop] at this
      exact this
    · rw [frames_no h]
      dsimp only
      by_cases e : l = []
      · subst e
        exact ⟨rfl, fun _ => rfl, fun h => absurd h (by simp)⟩
      · rw [if_neg e]
        have hpos : 0 < l.length := List.length_pos_iff.2 e
        exact ⟨rfl, fun x => by omega, fun _ => ⟨by rw [List.drop_zero], h⟩⟩
theorem frames_byt (k : Nat) : ∀ l : List Int, l.length ≤ k → Byt l → ∀ p ∈ (frames l).1, Byt p := by
  induction k with
  | zero =>
    intro l hl hb p hp
    have : l = [] := List.length_eq_zero_iff.1 (by omega)
    subst this
    rw [frames_nil] at hp
    exact absurd hp (by simp)
  | succ k ih =>
    intro l hl hb p hp
    by_cases h : (takeF l).2.2 = 0
    · obtain ⟨q, n, hf⟩ := FT.mk' hb h
      have h1 := hf.len
      have h2 := hf.two
      rw [hf.frames] at hp
      rcases List.mem_cons.1 hp with rfl | hp
      · rw [hf.pe]
        exact (hb.drop 2).take _
      · exact ih (l.drop n) (by rw [List.length_drop]; omega) (hb.drop n) p hp
    · rw [frames_no h] at hp
      exact absurd hp (by simp)
theorem frames_len64 (k : Nat) : ∀ l : List Int, l.length ≤ k → Byt l → ∀ p ∈ (frames l).1, p.length ≤ 64 := by
  induction k with
  | zero =>
    intro l hl hb p hp
    have : l = [] := List.length_eq_zero_iff.1 (by omega)
    subst this
    rw [frames_nil] at hp
    exact absurd hp (by simp)
  | succ k ih =>
    intro l hl hb p hp
    by_cases h : (takeF l).2.2 = 0
    · obtain ⟨q, n, hf⟩ := FT.mk' hb h
      have h1 := hf.len
      have h2 := hf.two
      rw [hf.frames] at hp
      rcases List.mem_cons.1 hp with rfl | hp
      · exact hf.pl
      · exact ih (l.drop n) (by rw [List.length_drop]; omega) (hb.drop n) p hp
    · rw [frames_no h] at hp
      exact absurd hp (by simp)
theorem eachL_snd (fs : List (List Int)) : (eachL fs).map Prod.snd = fs := by
  unfold eachL
  exact List.map_snd_zip (by rw [placesOf_length]; exact Nat.le_refl _)
theorem came_eq {pre : List El} {fs : List (List Int)} (h : came pre = eachL fs) : pre.map El.p = fs := by
  have := congrArg (List.map Prod.snd) h
  rw [eachL_snd] at this
  rw [← this]
  simp [came]
/-- The element whose turn it is: where it lies. -/
theorem came_last {F : List (List Int)} {pre : List El} {x : El} (h : ∃ fs, fs <+: F ∧ came (pre ++ [x]) = eachL fs) :
    pre.map El.p ++ [x.p] <+: F ∧ x.at_ = (total (pre.map El.p) : Int) := by
  obtain ⟨fs, hp, hc⟩ := h
  have h1 := came_eq hc
  rw [List.map_append, List.map_cons, List.map_nil] at h1
  subst h1
  refine ⟨hp, ?_⟩
  rw [eachL_snoc] at hc
  have : came (pre ++ [x]) = came pre ++ [(x.at_, x.p)] := by simp [came]
  rw [this] at hc
  have h2 := (List.append_inj' hc rfl).2
  simp at h2
  exact h2
theorem total_append (a b : List (List Int)) : total (a ++ b) = total a + total b := by
  induction a with
  | nil => simp [total]
  | cons p a ih => rw [List.cons_append, total, total, ih]; omega
theorem total_prefix {a F : List (List Int)} (h : a <+: F) : total a ≤ total F := by
  obtain ⟨r, rfl⟩ := h
  rw [total_append]; omega
end Go.Proofs.Ytalpemoodollpaa.P
/- append(v, x), a row one's own, inside a fence: the plain laws turned. -/
namespace Go.Proofs.Ytalpemoodollpaa.P
open Go.RowKit Go.Proofs.YtalpemoodollpaaW.PrintWords Go.Proofs.YtalpemoodollpaaW.PrintLast Go.Proofs.YtalpemoodollpaaW.PrintMore
set_option linter.unusedVariables false
variable {F : Fence} {n' : Nat} {P : Program} {α : Type} {ops : Array Oper} {rest : List Oper} {o : Oper} {a : Act} {Q : Exit → Act → World → Prop}
theorem wpListIn_append_own_at (w : World) (hgd : o.guard = none) (s x : Operand) (t : TypeId)
    (ho : o.op = .call { callee := .builtin .append, args := #[s, x], argTypes := #[t, t] })
    (base : Nat) (e : TypeId) (i : TypeInfo) (z : Value) (size bytes : Nat) (ht : P.underlying t = some (.slice e)) (hi : P.info? e = some i) (hz : i.zero = some z)
    (hsize : i.size = size) (hby : i.bytes = bytes) (hzs : z.cells.size = size) (hsz : 0 < size)
    (v : Value) (n : Nat) (xs : List Value) (hs : a.eval s = v) (hown : w.ownsRow base e size v n xs)
    (ad : Addr) (m c : Nat) (news : List Value) (hx : a.eval x = .slice (some ad) m c) (hl : news.length = m * size) (hnews : ∀ j u, news[j]? = some u → w.cell? (ad.add j) = some u) (h1 : ∀ u ∈ news, u.oneCell' = true)
    (h63 : n + m ≤ maxLen) (hbytes : (n + m) * bytes ≤ 140737488355328) (hbase : base ≤ w.heap.size)
    (h : ∀ v' w', w'.ownsRow base e size v' (n + m) (xs ++ news) → w.grownBy w' v.ownBlock → (v' = .slice none 0 0 ↔ v = .slice none 0 0 ∧ m = 0) → (v'.ownBlock = v.ownBlock ∨ v'.ownBlock = some w.heap.size) → wpListIn F n' P ops Q rest (a.put o.dst v') w') :
    wpListIn F n' P ops Q (o :: rest) a w := by
  refine wpListIn_plain hgd fun K hK' => ?_
  obtain ⟨v', w', hrun, r1, r2, r3, r4⟩ := run_append_own_at (P := P) w base t o.type e i z size bytes ht hi hz hsize hby hzs hsz v n xs hown ad m c news hl hnews h1 h63 hbytes hbase
  unfold Oper.wpIn
  refine ⟨?_, ?_⟩
  · simp [Oper.about, ho, resolve, Target.leads, Sem.run_pure]
  · rw [Oper.semAt_plain F _ _ (by rw [ho]; intro c hc'; cases hc')]
    simp [execOp, ho, resolve, invoke, builtin, hs, hx, hrun, Result.andThen]
    exact hK' _ _ (h v' w' r1 r2 r3 r4)
theorem print_append_cells_in {w0 W : World} (base : Nat) (hgd : o.guard = none) (s x : Operand) (t e : TypeId) (z : Value) (size bytes : Nat)
    (ho : o.op = .call { callee := .builtin .append, args := #[s, x], argTypes := #[t, t] })
    (ht : P.underlying t = some (.slice e)) (hinfo : (P.info? e).map (fun i => (i.zero, i.size, i.bytes)) = some (some z, size, bytes)) (hz : z.cells.size = size) (hs0 : 0 < size) (hb0 : 0 < bytes)
    (v : Value) (n : Nat) (xs ys : List Value) (hs : a.eval s = v) (hx : a.eval x = .slice (some ⟨W.heap.size, 0, none⟩) 1 1) (hys : ys.length = size) (h1 : ∀ u ∈ ys, u.oneCell' = true)
    (HO : W.ownsRow base e size v n xs) (HB : Below base w0 W) (hbase : base ≤ W.heap.size) (hl : (n + 1) * bytes ≤ 140737488355328)
    (h : ∀ v1 w1, w1.ownsRow base e size v1 (n + 1) (xs ++ ys) → Below base w0 w1 → W.grownBy w1 v.ownBlock → (v1.ownBlock = v.ownBlock ∨ ∃ b, v1.ownBlock = some b ∧ W.heap.size ≤ b) → wpListIn F n' P ops Q rest (a.put o.dst v1) w1) :
    wpListIn F n' P ops Q (o :: rest) a (W.alloc (.cells ys.toArray e)) := by
  obtain ⟨i0, hi, hzz⟩ := Option.map_eq_some_iff.1 hinfo
  simp only [Prod.mk.injEq] at hzz
  obtain ⟨hz0, hz1, hz2⟩ := hzz
  have hlen : n + 1 ≤ 140737488355328 := Nat.le_trans (Nat.le_mul_of_pos_right _ hb0) hl
  refine wpListIn_append_own_at (W.alloc (.cells ys.toArray e)) hgd s x t ho base e i0 z size bytes ht hi hz0 hz1 hz2 hz hs0 v n xs hs (HO.alloc _) ⟨W.heap.size, 0, none⟩ 1 1 ys hx (by rw [hys]; simp)
    (by simpa using World.news_of_block (cs := ys.toArray) (t := e) (fr := (0, 0)) (heap_alloc_new W (.cells ys.toArray e))) h1 (by simp only [maxLen]; omega) hl (by simp; omega) ?_
  intro v1 w1 hown hg _ hat
  refine h v1 w1 hown ((HB.alloc hbase _).grown hg (by simp; omega) (own_base HO)) (World.grownBy.trans (World.grownBy_alloc W _ _) hg) ?_
  rcases hat with hat | hat
  · exact .inl hat
  · exact .inr ⟨_, hat, by simp⟩
theorem R_append_in (d : Kd α) {w0 W : World} (base : Nat) (hgd : o.guard = none) (s x : Operand) (t e : TypeId) (z : Value) (bytes : Nat)
    (ho : o.op = .call { callee := .builtin .append, args := #[s, x], argTypes := #[t, t] })
    (ht : P.underlying t = some (.slice e)) (hinfo : (P.info? e).map (fun i => (i.zero, i.size, i.bytes)) = some (some z, d.sz, bytes)) (hz : z.cells.size = d.sz) (hs0 : 0 < d.sz) (hb0 : 0 < bytes)
    (v : Value) (xs : List α) (p : α) (cs : List Value) (ok okp : Nat → Prop) (hs : a.eval s = v) (hx : a.eval x = .slice (some ⟨W.heap.size, 0, none⟩) 1 1) (hp : d.M W base okp p cs) (hokp : ∀ k, okp k → ok k ∧ some k ≠ v.ownBlock) (hfresh : ∀ k, W.heap.size ≤ k → ok k)
    (HO : d.R e W base ok v xs) (HB : Below base w0 W) (hbase : base ≤ W.heap.size) (hl : (xs.length + 1) * bytes ≤ 140737488355328)
    (h : ∀ v1 w1, d.R e w1 base ok v1 (xs ++ [p]) → Below base w0 w1 → W.grownBy w1 v.ownBlock → (v1.ownBlock = v.ownBlock ∨ ∃ b, v1.ownBlock = some b ∧ W.heap.size ≤ b) → wpListIn F n' P ops Q rest (a.put o.dst v1) w1) :
    wpListIn F n' P ops Q (o :: rest) a (W.alloc (.cells cs.toArray e)) := by
  obtain ⟨h0, inner, hown, hr⟩ := HO
  refine print_append_cells_in base hgd s x t e z d.sz bytes ho ht hinfo hz hs0 hb0 v xs.length inner cs hs hx (d.K_len (d.K_of_M hp)) (d.K_one (d.K_of_M hp)) hown HB hbase hl ?_
  intro v1 w1 hown1 hb1 hg1 hat1
  exact h v1 w1 (Kd.R_appended h0 hr hp hokp hfresh hown1 hg1 hat1) hb1 hg1 hat1
end Go.Proofs.Ytalpemoodollpaa.P
