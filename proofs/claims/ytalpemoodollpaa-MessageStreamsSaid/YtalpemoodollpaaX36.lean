/- Contracts and plain laws: HmessageAll, HReadInt, HRead, HReads, HFS, P97, P33, HMsgR, HrefMsg, Href, HWK, Hmessage, P34, P35, PE0, P59. -/
import Derived.Shelf.RegionOpen
import Derived.RegionIn
import Derived.RegionTactic
import Derived.Deep.RegionHeld3
import Derived.Test.YtalpemoodollpaaX1
import Derived.Test.YtalpemoodollpaaX35
/- message.All. -/
namespace Go.Proofs.Ytalpemoodollpaa.P
open Go.RowKit Go.Shelf Go.Proofs.YtalpemoodollpaaW.PrintWords Go.Proofs.YtalpemoodollpaaW.PrintLast Go.Proofs.YtalpemoodollpaaW.PrintMore
set_option linter.unusedVariables false
set_option linter.unusedSimpArgs false
attribute [local go_sem] Oper.semAt_some
def msgC (m : S29) : List Value := [.int .i64 m.f0, .int .i64 m.f1, .int .i64 m.f2, .int .i64 m.f3, .int .i64 m.f4, .int .i64 m.f5, .int .i64 m.f6, .int .i64 m.f7, .int .i64 m.f8]
theorem info29m : (Try.prog.info? 29).map (fun i => (i.zero, i.size, i.bytes)) = some (some (.agg #[.int .i64 0, .int .i64 0, .int .i64 0, .int .i64 0, .int .i64 0, .int .i64 0, .int .i64 0, .int .i64 0, .int .i64 0]), 9, 72) := by kernel_rfl
theorem k29_ne (t : Nat) (ht : 29 ≠ t) : ∀ q, q ∈ 29 :: k29.E → q ≠ t := by
  intro q hq
  simp [k29, Kd.iso, Kd.pair, Kd.int, Kd.scalar] at hq
  omega
theorem R29_set {w : World} {base : Nat} {ok : Nat → Prop} {v : Value} {xs : List S29} {g t : Nat} {cs : Array Value} (h : k29.R 29 w base ok v xs) (hb : w.heap[g]? = some (.cells cs t (0, 0))) (ht : 29 ≠ t) (i : Nat) (u : Value) : k29.R 29 (w.setCell ⟨g, i, none⟩ u) base ok v xs := by
  refine Kd.R_mono (Kd.R_far (p := ⟨g, i, none⟩) (Kd.R_bound h) ?_ u) (fun _ hk => hk.1)
  rintro k ⟨_, _, _, q, hq, cells, hc⟩ e
  have e : k = g := e
  subst e
  rw [hb] at hc
  injection hc with hc
  injection hc with _ hc
  exact k29_ne t ht q hq hc.symm
theorem R29_own {w W : World} {base : Nat} {ok : Nat → Prop} {v : Value} {xs : List S29} {B0 : Nat} {row : Option Nat} (h : k29.R 29 w base ok v xs) (hg : w.grownBy W row) (hr : ∀ r, row = some r → B0 ≤ r ∧ ∃ o : Obj, w.heap[r]? = some o ∧ o.isCells = false) : k29.R 29 W base ok v xs := by
  refine Kd.R_mono (Kd.R_grown (Kd.R_bound h) hg ?_) (fun _ hk => hk.1)
  rintro k ⟨_, _, _, q, hq, cells, hc⟩ e
  obtain ⟨_, o, ho, hc2⟩ := hr k e.symm
  rw [hc] at ho
  cases ho
  exact absurd hc2 (by simp [Obj.isCells])
/-- Between two rounds. -/
structure MI (w : World) (bv : Value) (ps : List (List Int)) (A : Option Addr) (m : Nat) (W : World) : Prop where
  bl : Below w.heap.size w W
  h2 : W.heap[w.heap.size]? = some (.cells #[.slice A ps.length m] 22 (0, 0))
  hR : Kd.R k29 29 W w.heap.size (fun _ => True) (.slice A ps.length m) (msgsOf ps)
  h3 : W.heap[w.heap.size + 1]? = some (.cells #[.int .i64 0] 31 (0, 0))
  h4 : W.heap[w.heap.size + 1 + 1]? = some (.cells #[.int .i64 (total ps : Int)] 3 (0, 0))
  hB : W.heap[w.heap.size + 1 + 1 + 1]? = some (.cells #[bv] 30 (0, 0))
  ok : firstBad ps = 0
theorem MI.own {w w7 : World} {bv : Value} {ps : List (List Int)} {A : Option Addr} {m : Nat} {X Y : World} {row : Option Nat} (h7 : w.heap.size ≤ w7.heap.size) (h : MI w bv ps A m X) (hg : X.grownBy Y row)
    (hr : ∀ r, row = some r → w7.heap.size ≤ r ∧ ∃ o : Obj, X.heap[r]? = some o ∧ o.isCells = false) : MI w bv ps A m Y :=
  ⟨h.bl.grown hg h.bl.size (fun k e => by have := (hr k e).1; omega), blk_own h.h2 hg hr, R29_own h.hR hg hr, blk_own h.h3 hg hr, blk_own h.h4 hg hr, blk_own h.hB hg hr, h.ok⟩
theorem MI.below {w : World} {bv : Value} {ps : List (List Int)} {A : Option Addr} {m : Nat} {X Y : World} (h : MI w bv ps A m X) (hb : Below X.heap.size X Y) : MI w bv ps A m Y :=
  ⟨below_then h.bl h.bl.size hb, blk_below h.h2 hb, Kd.R_below h.hR hb, blk_below h.h3 hb, blk_below h.h4 hb, blk_below h.hB hb, h.ok⟩
/-- The body's own word to the iterator. -/
theorem MI.kp {w : World} {bv : Value} {ps ps' : List (List Int)} {A A' : Option Addr} {m m' : Nat} {X Y : World} (h : MI w bv ps A m X) (h' : MI w bv ps' A' m' Y) (hs : X.heap.size ≤ Y.heap.size) : KpE w.heap.size (w.heap.size + 1 + 1 + 1) X Y :=
  ⟨⟨h'.bl.os.trans h.bl.os.symm, h'.bl.tape.trans h.bl.tape.symm, h'.bl.output.trans h.bl.output.symm, hs, fun k hk => (h'.bl.block k hk).trans (h.bl.block k hk).symm⟩, h'.hB.trans h.hB.symm⟩
theorem MI.step {w : World} {bv : Value} {ps : List (List Int)} {A A1 : Option Addr} {m m1 : Nat} {X Y : World} {p : List Int} {L : Nat} {E : Int} (h : MI w bv ps A m X) (hg : X.grownBy Y (Value.slice A ps.length m).ownBlock)
    (hR : Kd.R k29 29 Y w.heap.size (fun _ => True) (.slice A1 L m1) (msgsOf (ps ++ [p]))) (hL : L = ps.length + 1) (hp : (msgDec p).2 = 0) (hE : E = (total ps : Int) + 2 + p.length) :
    MI w bv (ps ++ [p]) A1 m1 ((Y.setCell ⟨w.heap.size, 0, none⟩ (.slice A1 L m1)).setCell ⟨w.heap.size + 1 + 1, 0, none⟩ (.int .i64 E)) := by
  subst hL
  have n2 := Kd.R_ne h.hR h.h2 (by decide)
  have n3 := Kd.R_ne h.hR h.h3 (by decide)
  have n4 := Kd.R_ne h.hR h.h4 (by decide)
  have nB := Kd.R_ne h.hR h.hB (by decide)
  have y2 := blk_grown h.h2 hg n2
  have y3 := blk_grown h.h3 hg n3
  have y4 := blk_grown h.h4 hg n4
  have yB := blk_grown h.hB hg nB
  obtain ⟨inn, ho⟩ := Kd.R_own h.hR
  have hbl := h.bl.grown hg h.bl.size (own_base ho)
  have z4 := blk_far y4 (p := ⟨w.heap.size, 0, none⟩) (by simp; omega) (.slice A1 (ps.length + 1) m1)
  refine ⟨(hbl.setCell (Nat.le_refl _) _).setCell (by simp; omega) _, ?_, ?_, ?_, ?_, ?_, firstBad_snoc h.ok hp⟩
  · rw [List.length_append, List.length_singleton]
    exact blk_far (blk_put y2 0 _ rfl) (by simp; omega) _
  · rw [List.length_append, List.length_singleton]
    exact R29_set (R29_set hR y2 (by decide) 0 _) z4 (by decide) 0 _
  · exact blk_far (blk_far y3 (by simp) _) (by simp) _
  · refine blk_put z4 0 _ ?_
    rw [hE, total_snoc, show ((total ps + (2 + p.length) : Nat) : Int) = (total ps : Int) + 2 + (p.length : Int) by omega]
    rfl
  · exact blk_far (blk_far yB (by simp; omega) _) (by simp) _
/-- A payload is no message. -/
structure MX (w : World) (f : Int) (W : World) : Prop where
  bl : Below w.heap.size w W
  h2 : W.heap[w.heap.size]? = some (.cells #[.slice none 0 0] 22 (0, 0))
  h3 : W.heap[w.heap.size + 1]? = some (.cells #[.int .i64 f] 31 (0, 0))
theorem MX.own {w w7 : World} {f : Int} {X Y : World} {row : Option Nat} (h7 : w.heap.size ≤ w7.heap.size) (h : MX w f X) (hg : X.grownBy Y row)
    (hr : ∀ r, row = some r → w7.heap.size ≤ r ∧ ∃ o : Obj, X.heap[r]? = some o ∧ o.isCells = false) : MX w f Y :=
  ⟨h.bl.grown hg h.bl.size (fun k e => by have := (hr k e).1; omega), blk_own h.h2 hg hr, blk_own h.h3 hg hr⟩
theorem MI.stop {w : World} {bv : Value} {ps : List (List Int)} {A : Option Addr} {m : Nat} {X : World} (h : MI w bv ps A m X) (f : Int) : MX w f ((X.setCell ⟨w.heap.size, 0, none⟩ (.slice none 0 0)).setCell ⟨w.heap.size + 1, 0, none⟩ (.int .i64 f)) :=
  ⟨(h.bl.setCell (Nat.le_refl _) _).setCell (by simp) _, blk_far (blk_put h.h2 0 _ rfl) (by simp) _, blk_put (blk_far h.h3 (by simp) _) 0 _ rfl⟩
theorem MX.below {w : World} {f : Int} {X : World} (h : MX w f X) (o : Obj) : MX w f (X.alloc o) :=
  ⟨h.bl.alloc h.bl.size _, blk_alloc h.h2 _, blk_alloc h.h3 _⟩
def MAllPost (w : World) (F : List S29 × Int) (e : Ending) (w' : World) : Prop :=
  ∃ v0_ : Value, e = .returned (.tuple #[v0_, .int .i64 F.2]) ∧ Kd.R k29 29 w' w.heap.size (fun _ => True) v0_ F.1 ∧ Below w.heap.size w w'
set_option maxRecDepth 100000 in
set_option maxHeartbeats 4000000 in
theorem mAll_calls (A0 : Option Addr) (c0 : Nat) (bs : List Int) (w : World) (hr0 : Kd.C (Kd.int .u8) w A0 bs.length bs) (hc0 : bs.length ≤ c0) (hl : bs.length ≤ 1000000) (hb : Byt bs) :
    Calls Try.prog 57 #[.slice A0 bs.length c0] w (MAllPost w (msgAll bs)) := by
  have hu29 := Try.underlying29
  have hRB : RB w A0 bs c0 := ⟨hr0, hc0, hb, by omega⟩
  have HRB := Aside0.mk hRB
  obtain ⟨l1, l2, l3⟩ := frames_last bs.length bs (Nat.le_refl _) hb
  have hle := frames_end bs hb
  generalize hG : msgAll bs = G
  have HG := Aside0.mk hG
  obtain ⟨N, hN⟩ : ∃ N, bs.length = N := ⟨_, rfl⟩
  have HN := Aside0.mk hN
  have HST0 := Aside0.mk (fun w7 hm hBs hbl => each_stops 3 (w.heap.size + 1 + 1 + 1) w.heap.size A0 c0 bs w w7 (by omega) hm hBs hRB rfl hbl hl)
  have HBY := Aside0.mk (frames_byt bs.length bs (Nat.le_refl _) hb)
  have HF := Aside0.mk (show msgAll bs = if firstBad (frames bs).1 ≠ 0 then ([], firstBad (frames bs).1) else if (frames bs).2.2 ≠ 0 then ([], (frames bs).2.2) else (msgsOf (frames bs).1, 0) from rfl)
  rw [hN] at hl l2 l3 hle HST0 ⊢
  generalize frames bs = FR at *
  obtain ⟨FF, en, ef⟩ := FR
  dsimp only at l1 l2 l3 hle HST0 HF HBY
  subst l1
  have L2 := Aside0.mk l2
  have L3 := Aside0.mk l3
  have hl2 : (N : Int) ≤ 1000000 := by omega
  clear hr0 hc0 hb hG hN hRB l2 l3
  refine (callsIn_wide (n := 4)).1 ?_
  refine callsIn_of_wp_marks Try.func57 rfl trivial ?_ rfl
  simp only [Try.ntmps57, List.size_toArray, List.length_cons, List.length_nil, Nat.reduceAdd, Nat.reduceSub, Array.replicate_succ, Array.replicate_zero, List.push_toArray, List.append_toArray, List.nil_append, List.cons_append]
  gi_wp2_with fail
  refine ⟨trivial, ?_⟩
  refine (callsIn_wide.2 (each_calls _ _ _ _)).mono ?_
  rintro e w7 ⟨rfl, e7⟩
  gi_wp2_with fail
  have E7 : MI w (.slice A0 N c0) [] none 0 ((((w.alloc (Obj.cells #[Value.slice none 0 0] 22)).alloc (Obj.cells #[Value.int IntKind.i64 0] 31)).alloc (Obj.cells #[Value.int IntKind.i64 0] 3)).alloc (Obj.cells #[Value.slice A0 N c0] 30)) := by
    have b1 := blk_new w (Obj.cells #[Value.slice none 0 0] 22)
    have b2 := blk_new (w.alloc (Obj.cells #[Value.slice none 0 0] 22)) (Obj.cells #[Value.int IntKind.i64 0] 31)
    have b3 := blk_new ((w.alloc (Obj.cells #[Value.slice none 0 0] 22)).alloc (Obj.cells #[Value.int IntKind.i64 0] 31)) (Obj.cells #[Value.int IntKind.i64 0] 3)
    have b4 := blk_new (((w.alloc (Obj.cells #[Value.slice none 0 0] 22)).alloc (Obj.cells #[Value.int IntKind.i64 0] 31)).alloc (Obj.cells #[Value.int IntKind.i64 0] 3)) (Obj.cells #[Value.slice A0 N c0] 30)
    simp only [World.size_alloc] at b2 b3 b4
    exact ⟨((((Below.refl _ w).alloc (Nat.le_refl _) _).alloc (by simp) _).alloc (by simp; omega) _).alloc (by simp; omega) _, blk_alloc (blk_alloc (blk_alloc b1 _) _) _, Kd.R_nil _ _ _ _ _, blk_alloc (blk_alloc b2 _) _, blk_alloc b3 _, b4, rfl⟩
  have hz7 : w.heap.size + 4 = ((((w.alloc (Obj.cells #[Value.slice none 0 0] 22)).alloc (Obj.cells #[Value.int IntKind.i64 0] 31)).alloc (Obj.cells #[Value.int IntKind.i64 0] 3)).alloc (Obj.cells #[Value.slice A0 N c0] 30)).heap.size := by simp
  clear e7
  generalize ((((w.alloc (Obj.cells #[Value.slice none 0 0] 22)).alloc (Obj.cells #[Value.int IntKind.i64 0] 31)).alloc (Obj.cells #[Value.int IntKind.i64 0] 3)).alloc (Obj.cells #[Value.slice A0 N c0] 30)) = w7 at *
  have hST := HST0.out w7 E7.bl.size E7.hB E7.bl
  have hw7 := E7.bl.size
  refine wpIn_rangeFunc_pr rfl (by omega) (gf := 111) (lb := #[.pointer (some ⟨w.heap.size + 1 + 1 + 1, 0, none⟩)]) rfl trivial (enters_of Try.func111 (by kernel_rfl) rfl)
    hST PrE.put (fun h k => h.t k) (fun W l o o' hl h h1 h2 => KpE.b (w := w7) (by omega) (by omega) W l o o' hl h h1 h2) (Below.refl _ _) (fun _ => rfl)
    (fun pre W => ∃ A m, MI w (.slice A0 N c0) (pre.map El.p) A m W)
    (fun c pre W => c = .ret ∧ ∃ ps p, pre.map El.p = ps ++ [p] ∧ firstBad ps = 0 ∧ (msgDec p).2 ≠ 0 ∧ MX w (msgDec p).2 W)
    (fun s A B row hs hg hr => by obtain ⟨X, m, h⟩ := hs; exact ⟨X, m, h.own (w7 := w7) hw7 hg hr⟩)
    (fun c s A B row hs hg hr => by obtain ⟨h0, ps, p, h1, h2, h3, h4⟩ := hs; exact ⟨h0, ps, p, h1, h2, h3, h4.own (w7 := w7) hw7 hg hr⟩)
    ⟨none, 0, E7⟩
    (fun x => { tmps := #[Value.slice A0 N c0, undef, Value.pointer (some { block := w.heap.size, off := 0 }),
          Value.pointer (some { block := w.heap.size + 1, off := 0 }),
          Value.pointer (some { block := w.heap.size + 1 + 1, off := 0 }), .int .i64 x.at_, x.v, undef, undef,
          Value.slice A0 N c0,
          Value.func (Fn.func 111) #[] #[Value.pointer (some { block := w.heap.size + 1 + 1 + 1, off := 0 })], .int .i64 x.at_, x.v, undef, undef, undef, undef, undef, undef, undef, undef, undef, undef, undef, undef, undef, undef, undef, undef, undef, undef, undef, undef, undef, undef, undef, undef, undef, undef, undef, undef, undef, undef, undef], defers := [] }) ?assign ?body ?done ?stop
  case assign =>
    intro l x W K hK
    simp only [encE]
    gi_wp2
    exact hK
  case body =>
    rintro l pre ⟨at_, v, p⟩ W ⟨A, m, hE⟩ ⟨A', c, hv, hq, hC⟩ hsp hlen
    have hcn := came_last hsp
    dsimp only at hv hq hC hcn ⊢
    subst hv
    obtain ⟨hpf, rfl⟩ := hcn
    have htl := total_prefix hpf
    rw [total_snoc] at htl
    have htg := total_ge (pre.map El.p)
    have hpl : p.length ≤ 1000000 := by omega
    have hbp : Byt p := HBY.out p (hpf.subset (by simp))
    have D8 := Aside0.mk (msgDec_calls A' c p W hC (by omega) hbp)
    have HE := Aside0.mk hE
    rw [List.length_map] at htg
    have hq2 : pre.length ≤ 1000000 := by omega
    generalize hps : pre.map El.p = ps at *
    have HPS := Aside0.mk hps
    generalize hT : total ps = T at *
    have HT := Aside0.mk hT
    have htl2 : (T : Int) + 2 + (p.length : Int) ≤ (N : Int) := by omega
    clear hE hq hC hsp htg hpl hbp hps hT
    generalize hM : msgDec p = M at *
    have HM := Aside0.mk hM
    clear hM
    obtain ⟨mm, mf⟩ := M
    dsimp only at D8
    gi_wp2_with fail
    refine ⟨trivial, ?_⟩
    refine (CallsIn.inRound l (callsIn_wide.2 D8.out)).mono ?_
    rintro e w8 ⟨rfl, hb8⟩
    have hE8 := HE.out.below hb8
    have HB8 := Aside0.mk hb8
    have HE8 := Aside0.mk hE8
    have d2_ : w8.cell? ⟨w.heap.size, 0, none⟩ = some (.slice A ps.length m) := (blk_cell hE8.h2 0).trans rfl
    have d3_ : w8.cell? ⟨w.heap.size + 1, 0, none⟩ = some (.int .i64 0) := (blk_cell hE8.h3 0).trans rfl
    have d4_ : w8.cell? ⟨w.heap.size + 1 + 1, 0, none⟩ = some (.int .i64 (T : Int)) := by have := (blk_cell hE8.h4 0).trans rfl; rw [HT.out] at this; exact this
    have f2_ := blk_frozen hE8.h2 0
    have f3_ := blk_frozen hE8.h3 0
    have f4_ := blk_frozen hE8.h4 0
    have hs2 := blk_lt hE8.h2
    have hs3 := blk_lt hE8.h3
    have hs4 := blk_lt hE8.h4
    have HEW := HE
    clear hb8 hE8 D8 HE
    by_cases hf : mf = 0
    · subst hf
      gi_wp2_with (gi_at_builtin; go_must (refine R_append_in k29 (w0 := w) w.heap.size rfl (.tmp 21) (.tmp 23) 22 29 _ 72 rfl Try.underlying22 info29m rfl (by decide) (by decide) (.slice A ps.length m) (msgsOf ps) mm (msgC mm) (fun _ => True) (fun _ => False) rfl (by rw [World.size_alloc]; rfl) (k29_mkM _ _ _ mm) (fun _ h => False.elim h) (fun _ _ => trivial) (Kd.R_alloc HE8.out.hR _) (below_alloc HE8.out.bl _) (by simp; omega) (by rw [msgsOf_length]; have := HPS.out; rw [← this, List.length_map]; omega) ?_; intro v1 w10 hR1 hB1 hg1 hat1; obtain ⟨A1, m1, e1⟩ := Kd.R_slice hR1; subst e1; have HR1 := Aside0.mk hR1; have HG1 := Aside0.mk hg1; have s10 : w8.heap.size ≤ w10.heap.size := Nat.le_trans (Nat.le_trans (Nat.le_succ _) (Nat.le_of_eq (World.size_alloc _ _).symm)) hg1.size; have y2 := blk_grown (blk_alloc HE8.out.h2 _) hg1 (Kd.R_ne HE8.out.hR HE8.out.h2 (by decide)); have y4 := blk_grown (blk_alloc HE8.out.h4 _) hg1 (Kd.R_ne HE8.out.hR HE8.out.h4 (by decide)); have n2_ : w10.cell? ⟨w.heap.size, 0, none⟩ = some (.slice A ps.length m) := (blk_cell y2 0).trans rfl; have m2_ := blk_frozen y2 0; have n4_ : w10.cell? ⟨w.heap.size + 1 + 1, 0, none⟩ = some (.int .i64 (T : Int)) := (by have := (blk_cell y4 0).trans rfl; rw [HT.out] at this; exact this); have m4_ := blk_frozen y4 0; clear y2 y4; clear hR1 hB1 hg1 hat1))
      have hM1 := HM.out
      have hXa := HE8.out.below (below_alloc (Below.refl _ w8) (.cells (msgC mm).toArray 29))
      have hS := hXa.step (p := p) (L := (msgsOf ps).length + 1) (E := (T : Int) + 2 + p.length) (A1 := A1) (m1 := m1) HG1.out (by rw [msgsOf_snoc, hM1]; have := HR1.out; rwa [List.length_append, List.length_singleton] at this) (by rw [msgsOf_length]) (by rw [hM1]) (by rw [HT.out])
      have hKO : KeepsOthers W ((w10.setCell ⟨w.heap.size, 0, none⟩ (.slice A1 ((msgsOf ps).length + 1) m1)).setCell ⟨w.heap.size + 1 + 1, 0, none⟩ (.int .i64 ((T : Int) + 2 + p.length))) :=
        ((((KeepsOthers.of_grownBy (row := none) (grown_of_below HB8.out none) (fun j o e => by cases e)).trans (KeepsOthers.alloc _ _)).trans (KeepsOthers.of_grownBy HG1.out (fun j o hj ho => by
          obtain ⟨cells, hc⟩ := Kd.R_typed hXa.hR j hj
          have := hc.symm.trans ho; injection this with this; subst this; rfl))).trans (KeepsOthers.setCell _ _ _)).trans (KeepsOthers.setCell _ _ _)
      exact ⟨hKO, HEW.out.kp hS hKO.size, ⟨A1, m1, by rw [List.map_append, HPS.out]; exact hS⟩⟩
    · have hff : (mf != 0) = true := by simpa using hf
      gi_wp2_with fail
      have hKO : KeepsOthers W ((w8.setCell ⟨w.heap.size, 0, none⟩ (.slice none 0 0)).setCell ⟨w.heap.size + 1, 0, none⟩ (.int .i64 mf)) :=
        ((KeepsOthers.of_grownBy (row := none) (grown_of_below HB8.out none) (fun j o e => by cases e)).trans (KeepsOthers.setCell _ _ _)).trans (KeepsOthers.setCell _ _ _)
      have hM1 := HM.out
      refine ⟨hKO.trans (KeepsOthers.alloc _ _), rfl, ps, p, by rw [List.map_append, HPS.out]; rfl, HE8.out.ok, by rw [hM1]; exact hf, ?_⟩
      rw [hM1]
      exact (HE8.out.stop mf).below _
  case done =>
    rintro D xs W hD hS ⟨A, m, hE⟩ hK
    have hxs := came_eq hS
    rw [hxs] at hE
    have d2_ : W.cell? ⟨w.heap.size, 0, none⟩ = some (.slice A FF.length m) := (blk_cell hE.h2 0).trans rfl
    have d3_ : W.cell? ⟨w.heap.size + 1, 0, none⟩ = some (.int .i64 0) := (blk_cell hE.h3 0).trans rfl
    have d4_ : W.cell? ⟨w.heap.size + 1 + 1, 0, none⟩ = some (.int .i64 (total FF : Int)) := (blk_cell hE.h4 0).trans rfl
    have f2_ := blk_frozen hE.h2 0
    have f3_ := blk_frozen hE.h3 0
    have f4_ := blk_frozen hE.h4 0
    have HE := Aside0.mk hE
    have HK := Aside0.mk hK
    have hT2 : (total FF : Int) ≤ (N : Int) := by omega
    clear hE hK hS hxs
    by_cases hTN : total FF = N
    · have hGe : G = (msgsOf FF, 0) := by
        rw [← HG.out, HF.out, if_neg (by rw [HE.out.ok]; simp), if_neg (by rw [L2.out hTN]; simp)]
      subst hGe
      generalize hTT : total FF = T at *
      subst hTN
      gi_wp2
      have y2 := blk_put HE.out.h2 0 (.slice A FF.length m) rfl
      have y3 := blk_put (blk_far HE.out.h3 (p := ⟨w.heap.size, 0, none⟩) (by simp) (.slice A FF.length m)) 0 (.int .i64 0) rfl
      have y2' := blk_far y2 (p := ⟨w.heap.size + 1, 0, none⟩) (by simp) (.int .i64 0)
      have c2_ := (blk_cell y2' 0).trans rfl
      have c3_ := (blk_cell y3 0).trans rfl
      have hK' := ((KeepsOthers.setCell W ⟨w.heap.size, 0, none⟩ (.slice A FF.length m)).trans (KeepsOthers.setCell _ ⟨w.heap.size + 1, 0, none⟩ (.int .i64 0))).same D _ HK.out rfl
      have hbl := (HE.out.bl.setCell (p := ⟨w.heap.size, 0, none⟩) (Nat.le_refl _) (.slice A FF.length m)).setCell (p := ⟨w.heap.size + 1, 0, none⟩) (by simp) (.int .i64 0)
      have hRf := R29_own (B0 := 0) (R29_set (R29_set HE.out.hR HE.out.h2 (by decide) 0 (.slice A FF.length m)) (blk_far HE.out.h3 (p := ⟨w.heap.size, 0, none⟩) (by simp) (.slice A FF.length m)) (by decide) 0 (.int .i64 0)) (grownBy_putObj' _ D (.deferred none)) (fun r e => by cases e; exact ⟨Nat.zero_le _, _, hK', rfl⟩)
      have hc2 := cell_kept c2_ (grownBy_putObj' _ D (.deferred none)) (fun r e => by cases e; exact ⟨_, hK', rfl⟩)
      have hc3 := cell_kept c3_ (grownBy_putObj' _ D (.deferred none)) (fun r e => by cases e; exact ⟨_, hK', rfl⟩)
      refine ⟨by simp, .inl ⟨_, _, rfl, run_takeDeferred hK', ?_⟩⟩
      refine ⟨.tuple #[.slice A FF.length m, .int .i64 0], ?_, ⟨.slice A FF.length m, rfl, hRf, hbl.trans (belowK_b (w := w) (Nat.le_refl _) _ D _ _ (by omega) hK' rfl rfl)⟩⟩
      simp [results, Try.f57, go_sem, hc2, hc3]
    · obtain ⟨hL3, hef⟩ := L3.out (by omega)
      have hGe : G = ([], ef) := by
        rw [← HG.out, HF.out, if_neg (by rw [HE.out.ok]; simp), if_pos hef]
      subst hGe
      obtain ⟨A', hcut, hrb', hall⟩ := HRB.out.cut (total FF) (by rw [HN.out]; omega)
      rw [HN.out] at hcut
      have TK := Aside0.mk (frame_Take.calls A' (c0 - total FF) (bs.drop (total FF)) (takeF (bs.drop (total FF))).1 (takeF (bs.drop (total FF))).2.1 (takeF (bs.drop (total FF))).2.2 W (Kd.C_below hrb'.hC HE.out.bl) hrb'.hc (show frame_Take.f (bs.drop (total FF)) = some (takeF (bs.drop (total FF))) by
        unfold frame_Take.f; rw [if_pos ⟨bytB_of hrb'.hb, hrb'.hl⟩]))
      clear hrb' hall
      rw [hL3] at TK
      clear hL3
      generalize (takeF (bs.drop (total FF))).1 = tp at *
      generalize (takeF (bs.drop (total FF))).2.1 = tn at *
      generalize (bs.drop (total FF)).length = DL at *
      gi_wp2_with fail
      refine ⟨trivial, ?_⟩
      refine (callsIn_wide.2 TK.out).mono ?_
      rintro e w4 ⟨v4, rfl, hR4, hb4⟩
      obtain ⟨X4, m4, rfl⟩ := Kd.R_slice hR4
      have hE4 := HE.out.below hb4
      have HE4 := Aside0.mk hE4
      have hK4 := (hb4.block D (Array.getElem?_eq_some_iff.1 HK.out).1).trans HK.out
      have HK4 := Aside0.mk hK4
      have d2_ : w4.cell? ⟨w.heap.size, 0, none⟩ = some (.slice A FF.length m) := (blk_cell hE4.h2 0).trans rfl
      have d3_ : w4.cell? ⟨w.heap.size + 1, 0, none⟩ = some (.int .i64 0) := (blk_cell hE4.h3 0).trans rfl
      have f2_ := blk_frozen hE4.h2 0
      have f3_ := blk_frozen hE4.h3 0
      clear hE4 hb4 TK HE HK hK4 hR4
      gi_wp2_with fail
      gi_region
      gi_wp2
      have y3 := blk_put HE4.out.h3 0 (.int .i64 ef) rfl
      have y2 := blk_put (blk_far HE4.out.h2 (p := ⟨w.heap.size + 1, 0, none⟩) (by simp) (.int .i64 ef)) 0 (.slice none 0 0) rfl
      have y3' := blk_put (blk_far y3 (p := ⟨w.heap.size, 0, none⟩) (by simp) (.slice none 0 0)) 0 (.int .i64 ef) rfl
      have y2' := blk_far y2 (p := ⟨w.heap.size + 1, 0, none⟩) (by simp) (.int .i64 ef)
      have c2_ := (blk_cell (blk_drew y2') 0).trans rfl
      have c3_ := (blk_cell (blk_drew y3') 0).trans rfl
      have hK' := ((((KeepsOthers.setCell w4 ⟨w.heap.size + 1, 0, none⟩ (.int .i64 ef)).trans (KeepsOthers.setCell _ ⟨w.heap.size, 0, none⟩ (.slice none 0 0))).trans (KeepsOthers.setCell _ ⟨w.heap.size + 1, 0, none⟩ (.int .i64 ef))).trans (KeepsOthers.drew _)).same D _ HK4.out rfl
      have hbl := below_drew1 (((HE4.out.bl.setCell (p := ⟨w.heap.size + 1, 0, none⟩) (by simp) (.int .i64 ef)).setCell (p := ⟨w.heap.size, 0, none⟩) (Nat.le_refl _) (.slice none 0 0)).setCell (p := ⟨w.heap.size + 1, 0, none⟩) (by simp) (.int .i64 ef))
      have hc2 := cell_kept c2_ (grownBy_putObj' _ D (.deferred none)) (fun r e => by cases e; exact ⟨_, hK', rfl⟩)
      have hc3 := cell_kept c3_ (grownBy_putObj' _ D (.deferred none)) (fun r e => by cases e; exact ⟨_, hK', rfl⟩)
      refine ⟨by simp, .inl ⟨_, _, rfl, run_takeDeferred hK', ?_⟩⟩
      refine ⟨.tuple #[.slice none 0 0, .int .i64 ef], ?_, ⟨.slice none 0 0, rfl, Kd.R_nil _ _ _ _ _, hbl.trans (belowK_b (w := w) (Nat.le_refl _) _ D _ _ (by omega) hK' rfl rfl)⟩⟩
      simp [results, Try.f57, go_sem, hc2, hc3]
  case stop =>
    rintro D c pre W hD hS ⟨rfl, ps, p, h1, h2, h3, h4⟩ hK
    obtain ⟨fs, hfs, hcs⟩ := hS
    have hxs := came_eq hcs
    rw [h1] at hxs
    have hfb := firstBad_stop h2 h3 (by rw [hxs]; exact hfs)
    have hGe : G = ([], (msgDec p).2) := by
      rw [← HG.out, HF.out, hfb, if_pos h3]
    subst hGe
    generalize (msgDec p).2 = mf at *
    have c2_ : W.cell? ⟨w.heap.size, 0, none⟩ = some (.slice none 0 0) := (blk_cell h4.h2 0).trans rfl
    have c3_ : W.cell? ⟨w.heap.size + 1, 0, none⟩ = some (.int .i64 mf) := (blk_cell h4.h3 0).trans rfl
    have hbl := h4.bl
    have hK' := hK
    gi_wp2
    have hc2 := cell_kept c2_ (grownBy_putObj' _ D (.deferred none)) (fun r e => by cases e; exact ⟨_, hK', rfl⟩)
    have hc3 := cell_kept c3_ (grownBy_putObj' _ D (.deferred none)) (fun r e => by cases e; exact ⟨_, hK', rfl⟩)
    refine ⟨by simp, .inl ⟨_, _, rfl, run_takeDeferred hK', ?_⟩⟩
    refine ⟨.tuple #[.slice none 0 0, .int .i64 mf], ?_, ⟨.slice none 0 0, rfl, Kd.R_nil _ _ _ _ _, hbl.trans (belowK_b (w := w) (Nat.le_refl _) _ D _ _ (by omega) hK' rfl rfl)⟩⟩
    simp [results, Try.f57, go_sem, hc2, hc3]
def message_All.f (l0 : List Int) : Option (List S29 × Int) := if bytB l0 = true ∧ l0.length ≤ 1000000 then some (msgAll l0) else none
theorem message_All.calls (A0 : Option Addr) (c0 : Nat) (l0 : List Int) (r1 : List S29) (r2 : Int) (w : World) (hr0 : Kd.C (Kd.int .u8) w A0 l0.length l0) (hc0 : l0.length ≤ c0) (h : message_All.f l0 = some (r1, r2)) :
    Calls Try.prog 57 #[.slice A0 l0.length c0] w fun e w' => ∃ v0_ : Value, e = .returned (.tuple #[v0_, .int .i64 r2]) ∧ Kd.R k29 29 w' w.heap.size (fun _ => True) v0_ r1 ∧ Below w.heap.size w w' := by
  unfold message_All.f at h
  by_cases hp : bytB l0 = true ∧ l0.length ≤ 1000000
  · rw [if_pos hp] at h
    have h := Option.some.inj h
    have := mAll_calls A0 c0 l0 w hr0 hc0 hp.2 (byt_of hp.1)
    rw [h] at this
    exact this
  · rw [if_neg hp] at h
    exact absurd h (by simp)
end Go.Proofs.Ytalpemoodollpaa.P
/- damperref03.ReadInt. -/
namespace Go.Proofs.Ytalpemoodollpaa.P
open Go.RowKit Go.Proofs.YtalpemoodollpaaW.PrintWords Go.Proofs.YtalpemoodollpaaW.PrintLast Go.Proofs.YtalpemoodollpaaW.PrintMore
set_option linter.unusedVariables false
set_option linter.unusedSimpArgs false
theorem R_far5 {W : World} {base b : Nat} {v : Value} {xs : List Int} (h : Kd.R (Kd.int .u8) 5 W base (fun _ => True) v xs) (hb : b < base) (n s z f : Int) (u : Value) : Kd.R (Kd.int .u8) 5 (((((W.setCell ⟨b, 0, none⟩ (.int .u64 n)).setCell ⟨b, 1, none⟩ (.int .i64 s)).setCell ⟨b, 2, none⟩ u).setCell ⟨b, 3, none⟩ (.int .i64 z)).setCell ⟨b, 4, none⟩ (.int .i64 f)) base (fun _ => True) v xs := by
  have h1 : Kd.R (Kd.int .u8) 5 W base (fun k => base ≤ k) v xs := Kd.R_mono (Kd.R_bound h) (fun k hk => hk.2.1)
  exact Kd.R_mono (Kd.R_far (Kd.R_far (Kd.R_far (Kd.R_far (Kd.R_far h1 (p := ⟨b, 0, none⟩) (fun k hk => by show k ≠ b; omega) (.int .u64 n)) (p := ⟨b, 1, none⟩) (fun k hk => by show k ≠ b; omega) (.int .i64 s)) (p := ⟨b, 2, none⟩) (fun k hk => by show k ≠ b; omega) u) (p := ⟨b, 3, none⟩) (fun k hk => by show k ≠ b; omega) (.int .i64 z)) (p := ⟨b, 4, none⟩) (fun k hk => by show k ≠ b; omega) (.int .i64 f)) (fun _ _ => trivial)
theorem below_far5 {w W : World} {b : Nat} (h : Below w.heap.size w W) (hb : w.heap.size ≤ b) (n s z f : Int) (u : Value) : Below w.heap.size w (((((W.setCell ⟨b, 0, none⟩ (.int .u64 n)).setCell ⟨b, 1, none⟩ (.int .i64 s)).setCell ⟨b, 2, none⟩ u).setCell ⟨b, 3, none⟩ (.int .i64 z)).setCell ⟨b, 4, none⟩ (.int .i64 f)) := (below_set (j := 4) (v := (.int .i64 f)) (below_set (j := 3) (v := (.int .i64 z)) (below_set (j := 2) (v := u) (below_set (j := 1) (v := (.int .i64 s)) (below_set (j := 0) (v := (.int .u64 n)) h hb) hb) hb) hb) hb)
def rdInt (l : List Int) : Int × Int × List Int × Int × Int := if l.length < 8 then (0, 0, [], 0, 3) else (0, unzig (beNum (l.take 8)), [], 8, 0)
set_option maxRecDepth 100000 in
set_option maxHeartbeats 2000000 in
theorem refReadInt_calls (A0 : Option Addr) (c0 : Nat) (l0 : List Int) (w : World) (hr0 : Kd.C (Kd.int .u8) w A0 l0.length l0) (hc0 : l0.length ≤ c0) (hb : Byt l0) :
    Calls Try.prog 114 #[.slice A0 l0.length c0] w fun e w' => ∃ v : Value, e = .returned (.agg #[.int .u64 0, .int .i64 (rdInt l0).2.1, v, .int .i64 (rdInt l0).2.2.2.1, .int .i64 (rdInt l0).2.2.2.2]) ∧ Kd.R (Kd.int .u8) 5 w' w.heap.size (fun _ => True) v [] ∧ Below w.heap.size w w' := by
  have hU := refReadUint l0 8 hb 12 (by omega)
  have HU : Aside0 (∃ n S z f : Int, rdInt l0 = (0, S, [], z, f) ∧ rdUint l0 8 = (n, 0, [], z, f) ∧ 0 ≤ n ∧ n < 18446744073709551616 ∧ S = unzig n) := ⟨by
    unfold rdInt rdUint
    rw [if_neg (show ¬ ((8 : Int) < 1 ∨ (8 : Int) < 8) by decide)]
    by_cases h : l0.length < 8
    · rw [if_pos h, if_pos (show (l0.length : Int) < 8 by omega)]
      exact ⟨0, 0, 0, 3, rfl, rfl, by omega, by omega, by decide⟩
    · rw [if_neg h, if_neg (show ¬ (l0.length : Int) < 8 by omega)]
      have hrg := beNum_range (l0.take 8) (hb.take 8)
      rw [show (l0.take 8).length = 8 by rw [List.length_take]; omega] at hrg
      have h2 : ((256 ^ 8 : Nat) : Int) = 18446744073709551616 := by decide
      rw [h2] at hrg
      exact ⟨_, _, _, _, rfl, rfl, hrg.1, hrg.2, rfl⟩⟩
  obtain ⟨n, S, z, f, hI, hN, h0, h1, hS⟩ := HU.out
  rw [hN] at hU
  rw [hI]
  have HX := Aside0.mk hU
  have HR := Aside0.mk hr0
  have HC := Aside0.mk hc0
  have HNN := Aside0.mk (And.intro h0 h1)
  have HS := Aside0.mk hS
  clear hU hI hN HU hr0 hc0 hb h0 h1 hS
  have HB0 := Aside0.mk (show Box5 (w.alloc (.cells #[.int .u64 0, .int .i64 0, .slice none 0 0, .int .i64 0, .int .i64 0] 81)) w.heap.size 0 0 (.slice none 0 0) 0 0 from blk_new w _)
  have HR1 := Aside0.mk (Kd.C_alloc HR.out (.cells #[.int .u64 0, .int .i64 0, .slice none 0 0, .int .i64 0, .int .i64 0] 81))
  have HL0 := Aside0.mk (below_alloc (Below.refl w.heap.size w) (.cells #[.int .u64 0, .int .i64 0, .slice none 0 0, .int .i64 0, .int .i64 0] 81))
  have hX := damperref03_ReadUint.calls 12 A0 c0 l0 8 n 0 [] z f _ HR1.out HC.out HX.out
  go_enter Try.func114, Try.ntmps114
  go_wp2_with fail
  refine hX.mono ?_
  rintro e w1 ⟨v, rfl, hR, hbl⟩
  obtain ⟨A, c, rfl⟩ := Kd.R_slice hR
  have HB1 : Aside0 (Box5 w1 w.heap.size 0 0 (.slice none 0 0) 0 0) := ⟨(hbl.block _ (blk_lt HB0.out)).trans HB0.out⟩
  have HRR := Aside0.mk hR
  have HL1 := Aside0.mk (Below.trans HL0.out (Below.mono hbl HL0.out.size))
  clear hR hbl hX HB0 HR1 HL0
  have hb1 := fun o => (show Box5 (w1.alloc o) w.heap.size 0 0 (.slice none 0 0) 0 0 from blk_alloc HB1.out o)
  have d0 := fun o => (hb1 o).cells.1
  have d1 := fun o => (hb1 o).cells.2.1
  have d2 := fun o => (hb1 o).cells.2.2.1
  have d3 := fun o => (hb1 o).cells.2.2.2.1
  have d4 := fun o => (hb1 o).cells.2.2.2.2
  have y0 := fun o => blk_frozen (hb1 o) 0
  have y1 := fun o => blk_frozen (hb1 o) 1
  have y2 := fun o => blk_frozen (hb1 o) 2
  have y3 := fun o => blk_frozen (hb1 o) 3
  have y4 := fun o => blk_frozen (hb1 o) 4
  clear hb1
  have ht : Int.tmod n 2 = n % 2 := Int.tmod_eq_emod_of_nonneg HNN.out.1
  have hd : Int.tdiv n 2 = n / 2 := Int.tdiv_eq_ediv_of_nonneg HNN.out.1
  by_cases hev : n % 2 = 0
  · skip
    have hS : S = wrap64 (IntKind.u64.wrap (n / 2)) := by
      have h := HS.out
      unfold unzig at h
      rw [h]
      rw [if_pos hev, wrap_u64, wrap64_eq]
      have := HNN.out
      omega
    have hsz : (w.alloc (.cells #[.int .u64 0, .int .i64 0, .slice none 0 0, .int .i64 0, .int .i64 0] 81)).heap.size = w.heap.size + 1 := World.size_alloc _ _
    have HBX := Aside0.mk (show Box5 (w1.alloc (.cells #[.int .u64 0, .int .i64 (wrap64 (IntKind.u64.wrap (n / 2))), .slice A ([] : List Int).length c, .int .i64 z, .int .i64 f] 81)) w.heap.size 0 0 (.slice none 0 0) 0 0 from blk_alloc HB1.out _)
    have HBY := Aside0.mk (HBX.out.set5 0 (wrap64 (IntKind.u64.wrap (n / 2))) z f (.slice A ([] : List Int).length c))
    have HRY := Aside0.mk (R_far5 (Kd.R_alloc HRR.out (.cells #[.int .u64 0, .int .i64 (wrap64 (IntKind.u64.wrap (n / 2))), .slice A ([] : List Int).length c, .int .i64 z, .int .i64 f] 81)) (b := w.heap.size) (by omega) 0 (wrap64 (IntKind.u64.wrap (n / 2))) z f (.slice A ([] : List Int).length c))
    have HLY := Aside0.mk (below_far5 (below_alloc HL1.out (.cells #[.int .u64 0, .int .i64 (wrap64 (IntKind.u64.wrap (n / 2))), .slice A ([] : List Int).length c, .int .i64 z, .int .i64 f] 81)) (Nat.le_refl w.heap.size) 0 (wrap64 (IntKind.u64.wrap (n / 2))) z f (.slice A ([] : List Int).length c))
    have HSS := Aside0.mk hS
    clear hS hsz
    go_wp2
    refine bodyPost_ret (results_cell_row (fn := Try.f114) (p := 2) (ty := 81) rfl _ _ w.heap.size 81 #[.int .u64 0, .int .i64 (wrap64 (IntKind.u64.wrap (n / 2))), .slice A ([] : List Int).length c, .int .i64 z, .int .i64 f] (0, 0) _ rfl HBY.out Try.underlying81 rfl (by kernel_rfl)) rfl ?_
    refine ⟨_, by rw [HSS.out], Kd.R_lower HRY.out (by rw [World.size_alloc]; omega), HLY.out⟩
  · skip
    have hS : S = wrap64 (wrap64 (-wrap64 (IntKind.u64.wrap (n / 2))) - 1) := by
      have h := HS.out
      unfold unzig at h
      rw [h]
      rw [if_neg hev, wrap_u64, wrap64_eq, wrap64_eq, wrap64_eq]
      have := HNN.out
      omega
    have hsz : (w.alloc (.cells #[.int .u64 0, .int .i64 0, .slice none 0 0, .int .i64 0, .int .i64 0] 81)).heap.size = w.heap.size + 1 := World.size_alloc _ _
    have HBX := Aside0.mk (show Box5 (w1.alloc (.cells #[.int .u64 0, .int .i64 (wrap64 (wrap64 (-wrap64 (IntKind.u64.wrap (n / 2))) - 1)), .slice A ([] : List Int).length c, .int .i64 z, .int .i64 f] 81)) w.heap.size 0 0 (.slice none 0 0) 0 0 from blk_alloc HB1.out _)
    have HBY := Aside0.mk (HBX.out.set5 0 (wrap64 (wrap64 (-wrap64 (IntKind.u64.wrap (n / 2))) - 1)) z f (.slice A ([] : List Int).length c))
    have HRY := Aside0.mk (R_far5 (Kd.R_alloc HRR.out (.cells #[.int .u64 0, .int .i64 (wrap64 (wrap64 (-wrap64 (IntKind.u64.wrap (n / 2))) - 1)), .slice A ([] : List Int).length c, .int .i64 z, .int .i64 f] 81)) (b := w.heap.size) (by omega) 0 (wrap64 (wrap64 (-wrap64 (IntKind.u64.wrap (n / 2))) - 1)) z f (.slice A ([] : List Int).length c))
    have HLY := Aside0.mk (below_far5 (below_alloc HL1.out (.cells #[.int .u64 0, .int .i64 (wrap64 (wrap64 (-wrap64 (IntKind.u64.wrap (n / 2))) - 1)), .slice A ([] : List Int).length c, .int .i64 z, .int .i64 f] 81)) (Nat.le_refl w.heap.size) 0 (wrap64 (wrap64 (-wrap64 (IntKind.u64.wrap (n / 2))) - 1)) z f (.slice A ([] : List Int).length c))
    have HSS := Aside0.mk hS
    clear hS hsz
    go_wp2
    refine bodyPost_ret (results_cell_row (fn := Try.f114) (p := 2) (ty := 81) rfl _ _ w.heap.size 81 #[.int .u64 0, .int .i64 (wrap64 (wrap64 (-wrap64 (IntKind.u64.wrap (n / 2))) - 1)), .slice A ([] : List Int).length c, .int .i64 z, .int .i64 f] (0, 0) _ rfl HBY.out Try.underlying81 rfl (by kernel_rfl)) rfl ?_
    refine ⟨_, by rw [HSS.out], Kd.R_lower HRY.out (by rw [World.size_alloc]; omega), HLY.out⟩
end Go.Proofs.Ytalpemoodollpaa.P
/- damperref03.ReadRaw, damperlaw03.read. -/
namespace Go.Proofs.Ytalpemoodollpaa.P
open Go.RowKit Go.Proofs.YtalpemoodollpaaW.PrintWords Go.Proofs.YtalpemoodollpaaW.PrintLast Go.Proofs.YtalpemoodollpaaW.PrintMore
set_option linter.unusedVariables false
set_option linter.unusedSimpArgs false
/-- What ReadRaw tells. -/
def rdRaw (l : List Int) (n : Int) : Int × Int × List Int × Int × Int := if n < 0 then (0, 0, [], 0, 0) else if (l.length : Int) < n then (0, 0, [], 0, 3) else (0, 0, l.take n.toNat, n, 0)
set_option maxRecDepth 100000 in
set_option maxHeartbeats 2000000 in
theorem refReadRaw_calls (A0 : Option Addr) (c0 : Nat) (l0 : List Int) (n : Int) (w : World) (hr0 : Kd.C (Kd.int .u8) w A0 l0.length l0) (hc0 : l0.length ≤ c0) :
    Calls Try.prog 116 #[.slice A0 l0.length c0, .int .i64 n] w fun e w' => ∃ A c, e = .returned (.agg #[.int .u64 (rdRaw l0 n).1, .int .i64 (rdRaw l0 n).2.1, .slice A (rdRaw l0 n).2.2.1.length c, .int .i64 (rdRaw l0 n).2.2.2.1, .int .i64 (rdRaw l0 n).2.2.2.2]) ∧
      (rdRaw l0 n).2.2.1.length ≤ c ∧ (A = A0 ∨ (rdRaw l0 n).2.2.1 = []) ∧ Below w.heap.size w w' := by
  generalize hG : rdRaw l0 n = G
  unfold rdRaw at hG
  have HR := Aside0.mk hr0
  have HC := Aside0.mk hc0
  have HG := Aside0.mk hG
  clear hr0 hG
  by_cases h0 : n < 0
  · have HF : Aside0 (G = (0, 0, [], 0, 0)) := ⟨by have h := HG.out; rw [if_pos h0] at h; exact h.symm⟩
    clear HG
    have HBX := Aside0.mk (show Box5 (w.alloc (.cells #[.int .u64 0, .int .i64 0, .slice none 0 0, .int .i64 0, .int .i64 0] 81)) w.heap.size 0 0 (.slice none 0 0) 0 0 from blk_new w _)
    have HLX := Aside0.mk (below_alloc (Below.refl w.heap.size w) (.cells #[.int .u64 0, .int .i64 0, .slice none 0 0, .int .i64 0, .int .i64 0] 81))
    go_enter Try.func116, Try.ntmps116
    go_wp2
    refine bodyPost_ret (results_cell_row (fn := Try.f116) (p := 4) (ty := 81) rfl _ _ w.heap.size 81 #[.int .u64 0, .int .i64 0, .slice none 0 0, .int .i64 0, .int .i64 0] (0, 0) _ rfl HBX.out Try.underlying81 rfl (by kernel_rfl)) rfl ?_
    obtain rfl := HF.out
    exact ⟨none, 0, rfl, Nat.le_refl _, .inr rfl, HLX.out⟩
  · by_cases h1 : (l0.length : Int) < n
    · have HF : Aside0 (G = (0, 0, [], 0, 3)) := ⟨by have h := HG.out; rw [if_neg h0, if_pos h1] at h; exact h.symm⟩
      clear HG
      have HBX := Aside0.mk (show Box5 (w.alloc (.cells #[.int .u64 0, .int .i64 0, .slice none 0 0, .int .i64 0, .int .i64 3] 81)) w.heap.size 0 0 (.slice none 0 0) 0 3 from blk_new w _)
      have HLX := Aside0.mk (below_alloc (Below.refl w.heap.size w) (.cells #[.int .u64 0, .int .i64 0, .slice none 0 0, .int .i64 0, .int .i64 3] 81))
      go_enter Try.func116, Try.ntmps116
      go_wp2
      refine bodyPost_ret (results_cell_row (fn := Try.f116) (p := 4) (ty := 81) rfl _ _ w.heap.size 81 #[.int .u64 0, .int .i64 0, .slice none 0 0, .int .i64 0, .int .i64 3] (0, 0) _ rfl HBX.out Try.underlying81 rfl (by kernel_rfl)) rfl ?_
      obtain rfl := HF.out
      exact ⟨none, 0, rfl, Nat.le_refl _, .inr rfl, HLX.out⟩
    · obtain ⟨m, rfl⟩ := Int.eq_ofNat_of_zero_le (show 0 ≤ n by omega)
      have HF : Aside0 (G = (0, 0, l0.take m, (m : Int), 0)) := ⟨by have h := HG.out; rw [if_neg h0, if_neg h1] at h; exact h.symm⟩
      have hml : m ≤ l0.length := by omega
      have HML := Aside0.mk hml
      clear HG h0
      have HBX := Aside0.mk (show Box5 (w.alloc (.cells #[.int .u64 0, .int .i64 0, .slice A0 m c0, .int .i64 (m : Int), .int .i64 0] 81)) w.heap.size 0 0 (.slice A0 m c0) (m : Int) 0 from blk_new w _)
      have HLX := Aside0.mk (below_alloc (Below.refl w.heap.size w) (.cells #[.int .u64 0, .int .i64 0, .slice A0 m c0, .int .i64 (m : Int), .int .i64 0] 81))
      have HCC := Aside0.mk (Kd.C_take (Kd.C_alloc HR.out (.cells #[.int .u64 0, .int .i64 0, .slice A0 m c0, .int .i64 (m : Int), .int .i64 0] 81)) hml)
      go_enter Try.func116, Try.ntmps116
      go_wp2
      refine bodyPost_ret (results_cell_row (fn := Try.f116) (p := 4) (ty := 81) rfl _ _ w.heap.size 81 #[.int .u64 0, .int .i64 0, .slice A0 m c0, .int .i64 (m : Int), .int .i64 0] (0, 0) _ rfl HBX.out Try.underlying81 rfl (by kernel_rfl)) rfl ?_
      obtain rfl := HF.out
      have hlen : (l0.take m).length = m := by rw [List.length_take]; have := HML.out; omega
      refine ⟨A0, c0, by rw [hlen], by rw [hlen]; have := HML.out; have := HC.out; omega, .inl rfl, HLX.out⟩
theorem C_empty (W : World) (A : Option Addr) : Kd.C (Kd.int .u8) W A ([] : List Int).length [] := ⟨rfl, by simp, fun h => absurd h (Nat.lt_irrefl 0)⟩
/-- What law03.read tells. -/
def readF (l : List Int) (p : S49) : Int × Int × List Int × Int × Int :=
  if p.f0 = 1 then rdUint l p.f1 else if p.f0 = 2 then rdInt l else if p.f0 = 3 then fin3 l (numGo 10 0 0 l) else if p.f0 = 4 then rdRaw l p.f1 else (0, 0, [], 0, 0)
def RD (fn : Nat) (args : Array Value) (W : World) (A0 : Option Addr) (T : Int × Int × List Int × Int × Int) : Prop :=
  Calls Try.prog fn args W fun e w' => ∃ A c, e = .returned (.agg #[.int .u64 T.1, .int .i64 T.2.1, .slice A T.2.2.1.length c, .int .i64 T.2.2.2.1, .int .i64 T.2.2.2.2]) ∧ T.2.2.1.length ≤ c ∧ (A = A0 ∨ T.2.2.1 = []) ∧ Below W.heap.size W w'
theorem rdUint_raw (l : List Int) (s : Int) : (rdUint l s).2.2.1 = [] := by unfold rdUint; split; rfl; split <;> rfl
theorem fin3_raw (l : List Int) (r : Int × (List Int × Int)) : (fin3 l r).2.2.1 = [] := by unfold fin3; split <;> rfl
theorem rdInt_raw (l : List Int) : (rdInt l).2.2.1 = [] ∧ (rdInt l).1 = 0 := by unfold rdInt; split <;> exact ⟨rfl, rfl⟩
theorem RD.uint (A0 : Option Addr) (c0 : Nat) (l : List Int) (s : Int) (w : World) (hr : Kd.C (Kd.int .u8) w A0 l.length l) (hc : l.length ≤ c0) (hb : Byt l) : RD 106 #[.slice A0 l.length c0, .int .i64 s] w A0 (rdUint l s) := by
  refine (damperref03_ReadUint.calls 12 A0 c0 l s _ _ _ _ _ w hr hc (refReadUint l s hb 12 (by omega))).mono ?_
  rintro e w' ⟨v, rfl, hR, hbl⟩
  obtain ⟨A, c, rfl, hq, _⟩ := Kd.R_reads hR
  exact ⟨A, c, rfl, hq, .inr (rdUint_raw l s), hbl⟩
theorem RD.num (A0 : Option Addr) (c0 : Nat) (l : List Int) (w : World) (hr : Kd.C (Kd.int .u8) w A0 l.length l) (hc : l.length ≤ c0) (hb : Byt l) (hl : l.length ≤ 140737488355328) : RD 115 #[.slice A0 l.length c0] w A0 (fin3 l (numGo 10 0 0 l)) := by
  refine (damperref03_ReadNum.calls 21 A0 c0 l _ _ _ _ _ w hr hc (refReadNum l hb hl 21 (by omega))).mono ?_
  rintro e w' ⟨v, rfl, hR, hbl⟩
  obtain ⟨A, c, rfl, hq, _⟩ := Kd.R_reads hR
  exact ⟨A, c, rfl, hq, .inr (fin3_raw l _), hbl⟩
theorem RD.int (A0 : Option Addr) (c0 : Nat) (l : List Int) (w : World) (hr : Kd.C (Kd.int .u8) w A0 l.length l) (hc : l.length ≤ c0) (hb : Byt l) : RD 114 #[.slice A0 l.length c0] w A0 (rdInt l) := by
  refine (refReadInt_calls A0 c0 l w hr hc hb).mono ?_
  rintro e w' ⟨v, rfl, hR, hbl⟩
  obtain ⟨A, c, rfl, hq, _⟩ := Kd.R_reads hR
  exact ⟨A, c, by rw [(rdInt_raw l).1, (rdInt_raw l).2], by rw [(rdInt_raw l).1]; exact hq, .inr (rdInt_raw l).1, hbl⟩
set_option maxRecDepth 100000 in
set_option maxHeartbeats 4000000 in
theorem law03_read_calls (B : Option Addr) (m : Nat) (l : List Int) (p : S49) (A : Option Addr) (c : Nat) (w : World) (hr : Kd.C (Kd.int .u8) w B l.length l) (hm : l.length ≤ m) (hb : Byt l) (hl : l.length ≤ 140737488355328) :
    RD 61 #[.slice B l.length m, .agg #[.int .i64 p.f0, .int .i64 p.f1, .int .u64 p.f2, .int .i64 p.f3, .slice A p.f4.length c]] w B (readF l p) := by
  unfold RD
  obtain ⟨f0, f1, f2, f3, f4⟩ := p
  generalize hG : readF l ⟨f0, f1, f2, f3, f4⟩ = G
  unfold readF at hG
  dsimp only at *
  by_cases h1 : f0 = 1
  · rw [if_pos h1] at hG
    subst h1
    have hx : RD 106 #[.slice B l.length m, .int .i64 f1] ((w.alloc (.cells #[.int .i64 1, .int .i64 f1, .int .u64 f2, .int .i64 f3, .slice A f4.length c] 49)).alloc (.cells #[.int .u64 0, .int .i64 0, .slice none 0 0, .int .i64 0, .int .i64 0] 81)) B (rdUint l f1) := RD.uint B m l f1 _ (Kd.C_alloc (Kd.C_alloc hr _) _) hm hb
    rw [hG] at hx
    have HX := Aside0.mk hx
    have HB := Aside0.mk (show Box5 ((w.alloc (.cells #[.int .i64 1, .int .i64 f1, .int .u64 f2, .int .i64 f3, .slice A f4.length c] 49)).alloc (.cells #[.int .u64 0, .int .i64 0, .slice none 0 0, .int .i64 0, .int .i64 0] 81)) (w.heap.size + 1) 0 0 (.slice none 0 0) 0 0 from by
      have := blk_new (w.alloc (.cells #[.int .i64 1, .int .i64 f1, .int .u64 f2, .int .i64 f3, .slice A f4.length c] 49)) (.cells #[.int .u64 0, .int .i64 0, .slice none 0 0, .int .i64 0, .int .i64 0] 81)
      rw [World.size_alloc] at this
      exact this)
    have HL := Aside0.mk (below_alloc (below_alloc (Below.refl w.heap.size w) (.cells #[.int .i64 1, .int .i64 f1, .int .u64 f2, .int .i64 f3, .slice A f4.length c] 49)) (.cells #[.int .u64 0, .int .i64 0, .slice none 0 0, .int .i64 0, .int .i64 0] 81))
    clear hG hr hm hb hl hx
    go_enter Try.func61, Try.ntmps61
    go_wp2_with fail
    refine HX.out.mono ?_
    rintro e w1 ⟨X, x, rfl, hq, hX, hbl⟩
    obtain ⟨tn, ts, tr, tz, tf⟩ := G
    have HB1 : Aside0 (Box5 w1 (w.heap.size + 1) 0 0 (.slice none 0 0) 0 0) := ⟨(hbl.block _ (blk_lt HB.out)).trans HB.out⟩
    have HL1 := Aside0.mk (Below.trans HL.out (Below.mono hbl HL.out.size))
    have HB2 := Aside0.mk (HB1.out.set5 tn ts tz tf (.slice X tr.length x))
    have HL2 := Aside0.mk (below_far5 HL1.out (b := w.heap.size + 1) (by omega) tn ts tz tf (.slice X tr.length x))
    have HQ := Aside0.mk hq
    have HXX := Aside0.mk hX
    clear hbl hq hX HX HB HL
    obtain ⟨d0, d1, d2, d3, d4⟩ := HB1.out.cells
    have y0 := blk_frozen HB1.out 0
    have y1 := blk_frozen HB1.out 1
    have y2 := blk_frozen HB1.out 2
    have y3 := blk_frozen HB1.out 3
    have y4 := blk_frozen HB1.out 4
    go_wp2
    refine bodyPost_ret (results_cell_row (fn := Try.f61) (p := 4) (ty := 81) rfl _ _ (w.heap.size + 1) 81 #[.int .u64 tn, .int .i64 ts, .slice X tr.length x, .int .i64 tz, .int .i64 tf] (0, 0) _ rfl HB2.out Try.underlying81 rfl (by kernel_rfl)) rfl ?_
    exact ⟨X, x, rfl, HQ.out, HXX.out, HL2.out⟩
  · by_cases h2 : f0 = 2
    · rw [if_neg h1, if_pos h2] at hG
      clear h1
      subst h2
      have hx : RD 114 #[.slice B l.length m] ((w.alloc (.cells #[.int .i64 2, .int .i64 f1, .int .u64 f2, .int .i64 f3, .slice A f4.length c] 49)).alloc (.cells #[.int .u64 0, .int .i64 0, .slice none 0 0, .int .i64 0, .int .i64 0] 81)) B (rdInt l) := RD.int B m l _ (Kd.C_alloc (Kd.C_alloc hr _) _) hm hb
      rw [hG] at hx
      have HX := Aside0.mk hx
      have HB := Aside0.mk (show Box5 ((w.alloc (.cells #[.int .i64 2, .int .i64 f1, .int .u64 f2, .int .i64 f3, .slice A f4.length c] 49)).alloc (.cells #[.int .u64 0, .int .i64 0, .slice none 0 0, .int .i64 0, .int .i64 0] 81)) (w.heap.size + 1) 0 0 (.slice none 0 0) 0 0 from by
        have := blk_new (w.alloc (.cells #[.int .i64 2, .int .i64 f1, .int .u64 f2, .int .i64 f3, .slice A f4.length c] 49)) (.cells #[.int .u64 0, .int .i64 0, .slice none 0 0, .int .i64 0, .int .i64 0] 81)
        rw [World.size_alloc] at this
        exact this)
      have HL := Aside0.mk (below_alloc (below_alloc (Below.refl w.heap.size w) (.cells #[.int .i64 2, .int .i64 f1, .int .u64 f2, .int .i64 f3, .slice A f4.length c] 49)) (.cells #[.int .u64 0, .int .i64 0, .slice none 0 0, .int .i64 0, .int .i64 0] 81))
      clear hG hr hm hb hl hx
      go_enter Try.func61, Try.ntmps61
      go_wp2_with fail
      refine HX.out.mono ?_
      rintro e w1 ⟨X, x, rfl, hq, hX, hbl⟩
      obtain ⟨tn, ts, tr, tz, tf⟩ := G
      have HB1 : Aside0 (Box5 w1 (w.heap.size + 1) 0 0 (.slice none 0 0) 0 0) := ⟨(hbl.block _ (blk_lt HB.out)).trans HB.out⟩
      have HL1 := Aside0.mk (Below.trans HL.out (Below.mono hbl HL.out.size))
      have HB2 := Aside0.mk (HB1.out.set5 tn ts tz tf (.slice X tr.length x))
      have HL2 := Aside0.mk (below_far5 HL1.out (b := w.heap.size + 1) (by omega) tn ts tz tf (.slice X tr.length x))
      have HQ := Aside0.mk hq
      have HXX := Aside0.mk hX
      clear hbl hq hX HX HB HL
      obtain ⟨d0, d1, d2, d3, d4⟩ := HB1.out.cells
      have y0 := blk_frozen HB1.out 0
      have y1 := blk_frozen HB1.out 1
      have y2 := blk_frozen HB1.out 2
      have y3 := blk_frozen HB1.out 3
      have y4 := blk_frozen HB1.out 4
      go_wp2
      refine bodyPost_ret (results_cell_row (fn := Try.f61) (p := 4) (ty := 81) rfl _ _ (w.heap.size + 1) 81 #[.int .u64 tn, .int .i64 ts, .slice X tr.length x, .int .i64 tz, .int .i64 tf] (0, 0) _ rfl HB2.out Try.underlying81 rfl (by kernel_rfl)) rfl ?_
      exact ⟨X, x, rfl, HQ.out, HXX.out, HL2.out⟩
    · by_cases h3 : f0 = 3
      · rw [if_neg h1, if_neg h2, if_pos h3] at hG
        clear h1 h2
        subst h3
        have hx : RD 115 #[.slice B l.length m] ((w.alloc (.cells #[.int .i64 3, .int .i64 f1, .int .u64 f2, .int .i64 f3, .slice A f4.length c] 49)).alloc (.cells #[.int .u64 0, .int .i64 0, .slice none 0 0, .int .i64 0, .int .i64 0] 81)) B (fin3 l (numGo 10 0 0 l)) := RD.num B m l _ (Kd.C_alloc (Kd.C_alloc hr _) _) hm hb hl
        rw [hG] at hx
        have HX := Aside0.mk hx
        have HB := Aside0.mk (show Box5 ((w.alloc (.cells #[.int .i64 3, .int .i64 f1, .int .u64 f2, .int .i64 f3, .slice A f4.length c] 49)).alloc (.cells #[.int .u64 0, .int .i64 0, .slice none 0 0, .int .i64 0, .int .i64 0] 81)) (w.heap.size + 1) 0 0 (.slice none 0 0) 0 0 from by
          have := blk_new (w.alloc (.cells #[.int .i64 3, .int .i64 f1, .int .u64 f2, .int .i64 f3, .slice A f4.length c] 49)) (.cells #[.int .u64 0, .int .i64 0, .slice none 0 0, .int .i64 0, .int .i64 0] 81)
          rw [World.size_alloc] at this
          exact this)
        have HL := Aside0.mk (below_alloc (below_alloc (Below.refl w.heap.size w) (.cells #[.int .i64 3, .int .i64 f1, .int .u64 f2, .int .i64 f3, .slice A f4.length c] 49)) (.cells #[.int .u64 0, .int .i64 0, .slice none 0 0, .int .i64 0, .int .i64 0] 81))
        clear hG hr hm hb hl hx
        go_enter Try.func61, Try.ntmps61
        go_wp2_with fail
        refine HX.out.mono ?_
        rintro e w1 ⟨X, x, rfl, hq, hX, hbl⟩
        obtain ⟨tn, ts, tr, tz, tf⟩ := G
        have HB1 : Aside0 (Box5 w1 (w.heap.size + 1) 0 0 (.slice none 0 0) 0 0) := ⟨(hbl.block _ (blk_lt HB.out)).trans HB.out⟩
        have HL1 := Aside0.mk (Below.trans HL.out (Below.mono hbl HL.out.size))
        have HB2 := Aside0.mk (HB1.out.set5 tn ts tz tf (.slice X tr.length x))
        have HL2 := Aside0.mk (below_far5 HL1.out (b := w.heap.size + 1) (by omega) tn ts tz tf (.slice X tr.length x))
        have HQ := Aside0.mk hq
        have HXX := Aside0.mk hX
        clear hbl hq hX HX HB HL
        obtain ⟨d0, d1, d2, d3, d4⟩ := HB1.out.cells
        have y0 := blk_frozen HB1.out 0
        have y1 := blk_frozen HB1.out 1
        have y2 := blk_frozen HB1.out 2
        have y3 := blk_frozen HB1.out 3
        have y4 := blk_frozen HB1.out 4
        go_wp2
        refine bodyPost_ret (results_cell_row (fn := Try.f61) (p := 4) (ty := 81) rfl _ _ (w.heap.size + 1) 81 #[.int .u64 tn, .int .i64 ts, .slice X tr.length x, .int .i64 tz, .int .i64 tf] (0, 0) _ rfl HB2.out Try.underlying81 rfl (by kernel_rfl)) rfl ?_
        exact ⟨X, x, rfl, HQ.out, HXX.out, HL2.out⟩
      · by_cases h4 : f0 = 4
        · rw [if_neg h1, if_neg h2, if_neg h3, if_pos h4] at hG
          clear h1 h2 h3
          subst h4
          have hx : RD 116 #[.slice B l.length m, .int .i64 f1] ((w.alloc (.cells #[.int .i64 4, .int .i64 f1, .int .u64 f2, .int .i64 f3, .slice A f4.length c] 49)).alloc (.cells #[.int .u64 0, .int .i64 0, .slice none 0 0, .int .i64 0, .int .i64 0] 81)) B (rdRaw l f1) := refReadRaw_calls B m l f1 _ (Kd.C_alloc (Kd.C_alloc hr _) _) hm
          rw [hG] at hx
          have HX := Aside0.mk hx
          have HB := Aside0.mk (show Box5 ((w.alloc (.cells #[.int .i64 4, .int .i64 f1, .int .u64 f2, .int .i64 f3, .slice A f4.length c] 49)).alloc (.cells #[.int .u64 0, .int .i64 0, .slice none 0 0, .int .i64 0, .int .i64 0] 81)) (w.heap.size + 1) 0 0 (.slice none 0 0) 0 0 from by
            have := blk_new (w.alloc (.cells #[.int .i64 4, .int .i64 f1, .int .u64 f2, .int .i64 f3, .slice A f4.length c] 49)) (.cells #[.int .u64 0, .int .i64 0, .slice none 0 0, .int .i64 0, .int .i64 0] 81)
            rw [World.size_alloc] at this
            exact this)
          have HL := Aside0.mk (below_alloc (below_alloc (Below.refl w.heap.size w) (.cells #[.int .i64 4, .int .i64 f1, .int .u64 f2, .int .i64 f3, .slice A f4.length c] 49)) (.cells #[.int .u64 0, .int .i64 0, .slice none 0 0, .int .i64 0, .int .i64 0] 81))
          clear hG hr hm hb hl hx
          go_enter Try.func61, Try.ntmps61
          go_wp2_with fail
          refine HX.out.mono ?_
          rintro e w1 ⟨X, x, rfl, hq, hX, hbl⟩
          obtain ⟨tn, ts, tr, tz, tf⟩ := G
          have HB1 : Aside0 (Box5 w1 (w.heap.size + 1) 0 0 (.slice none 0 0) 0 0) := ⟨(hbl.block _ (blk_lt HB.out)).trans HB.out⟩
          have HL1 := Aside0.mk (Below.trans HL.out (Below.mono hbl HL.out.size))
          have HB2 := Aside0.mk (HB1.out.set5 tn ts tz tf (.slice X tr.length x))
          have HL2 := Aside0.mk (below_far5 HL1.out (b := w.heap.size + 1) (by omega) tn ts tz tf (.slice X tr.length x))
          have HQ := Aside0.mk hq
          have HXX := Aside0.mk hX
          clear hbl hq hX HX HB HL
          obtain ⟨d0, d1, d2, d3, d4⟩ := HB1.out.cells
          have y0 := blk_frozen HB1.out 0
          have y1 := blk_frozen HB1.out 1
          have y2 := blk_frozen HB1.out 2
          have y3 := blk_frozen HB1.out 3
          have y4 := blk_frozen HB1.out 4
          go_wp2
          refine bodyPost_ret (results_cell_row (fn := Try.f61) (p := 4) (ty := 81) rfl _ _ (w.heap.size + 1) 81 #[.int .u64 tn, .int .i64 ts, .slice X tr.length x, .int .i64 tz, .int .i64 tf] (0, 0) _ rfl HB2.out Try.underlying81 rfl (by kernel_rfl)) rfl ?_
          exact ⟨X, x, rfl, HQ.out, HXX.out, HL2.out⟩
        · rw [if_neg h1, if_neg h2, if_neg h3, if_neg h4] at hG
          subst hG
          have HB := Aside0.mk (show Box5 ((w.alloc (.cells #[.int .i64 f0, .int .i64 f1, .int .u64 f2, .int .i64 f3, .slice A f4.length c] 49)).alloc (.cells #[.int .u64 0, .int .i64 0, .slice none 0 0, .int .i64 0, .int .i64 0] 81)) (w.heap.size + 1) 0 0 (.slice none 0 0) 0 0 from by
            have := blk_new (w.alloc (.cells #[.int .i64 f0, .int .i64 f1, .int .u64 f2, .int .i64 f3, .slice A f4.length c] 49)) (.cells #[.int .u64 0, .int .i64 0, .slice none 0 0, .int .i64 0, .int .i64 0] 81)
            rw [World.size_alloc] at this
            exact this)
          have HL := Aside0.mk (below_alloc (below_alloc (Below.refl w.heap.size w) (.cells #[.int .i64 f0, .int .i64 f1, .int .u64 f2, .int .i64 f3, .slice A f4.length c] 49)) (.cells #[.int .u64 0, .int .i64 0, .slice none 0 0, .int .i64 0, .int .i64 0] 81))
          clear hr hm hb hl
          go_enter Try.func61, Try.ntmps61
          go_wp2
          refine bodyPost_ret (results_cell_row (fn := Try.f61) (p := 4) (ty := 81) rfl _ _ (w.heap.size + 1) 81 #[.int .u64 0, .int .i64 0, .slice none 0 0, .int .i64 0, .int .i64 0] (0, 0) _ rfl HB.out Try.underlying81 rfl (by kernel_rfl)) rfl ?_
          first | exact ⟨none, 0, rfl, Nat.le_refl _, .inr rfl, HL.out⟩ | exact ⟨none, 0, rfl, Nat.le_refl _, .inr trivial, HL.out⟩ | exact ⟨none, 0, by simp, by simp, by simp, HL.out⟩
end Go.Proofs.Ytalpemoodollpaa.P
/- What is got is what the document reads. -/

namespace Go.Proofs.Ytalpemoodollpaa.P
open Go.RowKit Go.Proofs.YtalpemoodollpaaW.PrintWords Go.Proofs.YtalpemoodollpaaW.PrintLast Go.Proofs.YtalpemoodollpaaW.PrintMore
set_option linter.unusedVariables false
set_option linter.unusedSimpArgs false
theorem rTake_0 (l : List Int) (n : Nat) : rTake (l, 0) n = if l.length < n then ([], false, (l, 3)) else (l.take n, true, (l.drop n, 0)) := by
  unfold rTake
  rw [if_neg (by simp)]
theorem rTake_f (l : List Int) (f : Int) (hf : f ≠ 0) (n : Nat) : rTake (l, f) n = ([], false, (l, f)) := by
  unfold rTake
  rw [if_pos hf]
theorem numGo_fin (k : Nat) : ∀ (i : Nat) (n : Int) (l : List Int), ((numGo k i n l).2.2 ≠ 0 → (numGo k i n l).1 = 0) ∧ ((numGo k i n l).2.2 = 0 → ∃ m, m ≤ l.length ∧ (numGo k i n l).2.1 = l.drop m) := by
  induction k with
  | zero => intro i n l; exact ⟨fun _ => rfl, fun h => absurd h (by simp [numGo])⟩
  | succ k ih =>
    intro i n l
    cases l with
    | nil => exact ⟨fun _ => rfl, fun h => absurd h (by simp [numGo])⟩
    | cons b bs =>
      rw [numGo]
      split
      · exact ⟨fun _ => rfl, fun h => absurd h (by simp)⟩
      · split
        · obtain ⟨h1, h2⟩ := ih (i + 1) (n + b % 128 * ((128 ^ i : Nat) : Int)) bs
          refine ⟨h1, fun h => ?_⟩
          obtain ⟨m, hm, he⟩ := h2 h
          exact ⟨m + 1, by simp; omega, by rw [he]; rfl⟩
        · split
          · exact ⟨fun _ => rfl, fun h => absurd h (by simp)⟩
          · exact ⟨fun h => absurd rfl h, fun _ => ⟨1, by simp, rfl⟩⟩
theorem got_read (l : List Int) (p : S49) : (gotF (l, 0) p).1 = (readF l p).1 ∧ (gotF (l, 0) p).2.1 = (readF l p).2.1 ∧ (gotF (l, 0) p).2.2.1 = (readF l p).2.2.1 ∧ (gotF (l, 0) p).2.2.2.2 = (readF l p).2.2.2.2 ∧
    0 ≤ (readF l p).2.2.2.1 ∧ (readF l p).2.2.2.1 ≤ l.length ∧ ((readF l p).2.2.2.2 = 0 → (gotF (l, 0) p).2.2.2.1 = l.drop (readF l p).2.2.2.1.toNat) := by
  unfold gotF readF
  by_cases h1 : p.f0 = 1
  · rw [if_pos h1, if_pos h1]
    unfold rUint rdUint
    by_cases hk : p.f1 < 1 ∨ 8 < p.f1
    · rw [if_pos hk, if_pos hk]
      exact ⟨rfl, rfl, rfl, rfl, by simp, by simp, fun _ => rfl⟩
    · rw [if_neg hk, if_neg hk, rTake_0]
      by_cases hl : l.length < p.f1.toNat
      · rw [if_pos hl, if_pos (show (l.length : Int) < p.f1 by omega)]
        exact ⟨rfl, rfl, rfl, rfl, by simp, by simp, fun h => absurd h (by simp)⟩
      · rw [if_neg hl, if_neg (show ¬ (l.length : Int) < p.f1 by omega)]
        exact ⟨rfl, rfl, rfl, rfl, by show 0 ≤ p.f1; omega, by show p.f1 ≤ (l.length : Int); omega, fun _ => rfl⟩
  · rw [if_neg h1, if_neg h1]
    by_cases h2 : p.f0 = 2
    · rw [if_pos h2, if_pos h2]
      unfold rUint rdInt
      rw [if_neg (show ¬ ((8 : Int) < 1 ∨ (8 : Int) < 8) by decide), show (8 : Int).toNat = 8 from rfl, rTake_0]
      by_cases hl : l.length < 8
      · rw [if_pos hl, if_pos hl]
        exact ⟨rfl, by show unzig 0 = 0; decide, rfl, rfl, by simp, by simp, fun h => absurd h (by simp)⟩
      · rw [if_neg hl, if_neg hl]
        exact ⟨rfl, rfl, rfl, rfl, by simp, by show (8 : Int) ≤ (l.length : Int); omega, fun _ => rfl⟩
    · rw [if_neg h2, if_neg h2]
      by_cases h3 : p.f0 = 3
      · rw [if_pos h3, if_pos h3]
        unfold rNum fin3
        rw [if_neg (by simp)]
        obtain ⟨hz, hd⟩ := numGo_fin 10 0 0 l
        by_cases hf : (numGo 10 0 0 l).2.2 = 0
        · rw [if_pos hf]
          obtain ⟨m, hm, he⟩ := hd hf
          refine ⟨rfl, rfl, rfl, hf, ?_, ?_, fun _ => ?_⟩
          · show 0 ≤ (l.length : Int) - ((numGo 10 0 0 l).2.1.length : Int)
            rw [he, List.length_drop]; omega
          · show (l.length : Int) - ((numGo 10 0 0 l).2.1.length : Int) ≤ _
            omega
          · show (numGo 10 0 0 l).2.1 = l.drop ((l.length : Int) - ((numGo 10 0 0 l).2.1.length : Int)).toNat
            rw [he, List.length_drop]
            congr 1
            omega
        · rw [if_neg hf]
          exact ⟨hz hf, rfl, rfl, rfl, by simp, by simp, fun h => absurd h hf⟩
      · rw [if_neg h3, if_neg h3]
        by_cases h4 : p.f0 = 4
        · rw [if_pos h4, if_pos h4]
          unfold rdRaw
          by_cases hn : p.f1 < 0
          · rw [if_pos hn, if_pos hn]
            exact ⟨rfl, rfl, rfl, rfl, by simp, by simp, fun _ => rfl⟩
          · rw [if_neg hn, if_neg hn, rTake_0]
            by_cases hl : l.length < p.f1.toNat
            · rw [if_pos hl, if_pos (show (l.length : Int) < p.f1 by omega)]
              exact ⟨rfl, rfl, rfl, rfl, by simp, by simp, fun h => absurd h (by simp)⟩
            · rw [if_neg hl, if_neg (show ¬ (l.length : Int) < p.f1 by omega)]
              exact ⟨rfl, rfl, rfl, rfl, by show 0 ≤ p.f1; omega, by show p.f1 ≤ (l.length : Int); omega, fun _ => rfl⟩
        · rw [if_neg h4, if_neg h4]
          exact ⟨rfl, rfl, rfl, rfl, by simp, by simp, fun _ => rfl⟩
theorem got_fault (l : List Int) (f : Int) (hf : f ≠ 0) (p : S49) : gotF (l, f) p = (0, 0, [], (l, f)) := by
  unfold gotF rUint rNum
  have e := rTake_f l f hf
  split
  · split
    · rfl
    · rw [e]; rfl
  · split
    · rw [if_neg (by decide), e]; rfl
    · split
      · rfl
      · split
        · split
          · rfl
          · rw [e]
        · rfl
end Go.Proofs.Ytalpemoodollpaa.P
/- The state of damperref06.Decode: nine parts in an array, the result's box. -/
namespace Go.Proofs.Ytalpemoodollpaa.P
open Go.RowKit Go.Proofs.YtalpemoodollpaaW.PrintWords Go.Proofs.YtalpemoodollpaaW.PrintLast Go.Proofs.YtalpemoodollpaaW.PrintMore
set_option linter.unusedVariables false
set_option linter.unusedSimpArgs false
theorem rUint_ff (l : List Int) (f : Int) (hf : f ≠ 0) (k : Int) : rUint (l, f) k = (0, (l, f)) := by
  unfold rUint
  rw [rTake_f l f hf]
  split <;> rfl
theorem rNum_ff (l : List Int) (f : Int) (hf : f ≠ 0) : rNum (l, f) = (0, (l, f)) := by
  unfold rNum
  rw [if_pos hf]
def zero5 (j : Nat) : Value := if j % 5 = 0 then .int .u64 0 else if j % 5 = 2 then .slice none 0 0 else .int .i64 0
def arr45 (f : Nat → Value) : Array Value := ((List.range 45).map f).toArray
theorem arr_set (f : Nat → Value) (k : Nat) (v : Value) : (arr45 f).setIfInBounds k v = arr45 (fun j => if j = k then v else f j) := by
  apply Array.ext'
  show ((arr45 f).setIfInBounds k v).toList = (List.range 45).map (fun j => if j = k then v else f j)
  rw [Array.toList_setIfInBounds]
  show ((List.range 45).map f).set k v = _
  apply List.ext_getElem
  · simp
  · intro i h1 h2
    rw [List.getElem_set, List.getElem_map, List.getElem_map, List.getElem_range]
    by_cases e : k = i
    · rw [if_pos e, if_pos e.symm]
    · rw [if_neg e, if_neg (fun x => e x.symm)]
structure FS (w W : World) (ba : Nat) (f : Nat → Value) : Prop where
  arr : W.heap[ba]? = some (.cells (arr45 f) 153 (0, 0))
  zx : Box9 W 29 w.heap.size 0 0 0 0 0 0 0 0 0
  bel : Below w.heap.size w W
  hba : w.heap.size < ba
namespace FS
variable {w W W1 : World} {ba : Nat} {f : Nat → Value}
theorem below (h : FS w W ba f) (hb : Below W.heap.size W W1) : FS w W1 ba f := ⟨(hb.block _ (blk_lt h.arr)).trans h.arr, (hb.block _ (blk_lt h.zx)).trans h.zx, below_then h.bel h.bel.size hb, h.hba⟩
theorem cell (h : FS w W ba f) (j : Nat) (hj : j < 45) : W.cell? ⟨ba, j, none⟩ = some (f j) := by
  rw [blk_cell h.arr j]
  simp [arr45, hj]
theorem frozen (h : FS w W ba f) (j : Nat) : W.frozen? ⟨ba, j, none⟩ = false := blk_frozen h.arr j
theorem set (h : FS w W ba f) (k : Nat) (v : Value) : FS w (W.setCell ⟨ba, k, none⟩ v) ba (fun j => if j = k then v else f j) := by
  refine ⟨?_, blk_far h.zx (by have := h.hba; show w.heap.size ≠ ba; omega) v, h.bel.setCell (p := ⟨ba, k, none⟩) (by have := h.hba; show w.heap.size ≤ ba; omega) v, h.hba⟩
  refine (blk_set h.arr k v).trans ?_
  rw [arr_set]
theorem store5 (h : FS w W ba f) (k : Nat) (n s z q : Int) (v : Value) :
    ∃ f', FS w (((((W.setCell ⟨ba, k, none⟩ (.int .u64 n)).setCell ⟨ba, k + 1, none⟩ (.int .i64 s)).setCell ⟨ba, k + 2, none⟩ v).setCell ⟨ba, k + 3, none⟩ (.int .i64 z)).setCell ⟨ba, k + 4, none⟩ (.int .i64 q)) ba f' ∧
      f' k = .int .u64 n ∧ f' (k + 1) = .int .i64 s ∧ f' (k + 3) = .int .i64 z ∧ f' (k + 4) = .int .i64 q ∧ ∀ j, (j < k ∨ k + 5 ≤ j) → f' j = f j := by
  refine ⟨_, ((((h.set k (.int .u64 n)).set (k + 1) (.int .i64 s)).set (k + 2) v).set (k + 3) (.int .i64 z)).set (k + 4) (.int .i64 q), ?_, ?_, ?_, ?_, ?_⟩
  · simp
  · simp
  · simp
  · simp
  · intro j hj
    rw [if_neg (by omega), if_neg (by omega), if_neg (by omega), if_neg (by omega), if_neg (by omega)]
end FS
/-- The end, as the document says it. -/
def refMFin (k sym seq tick id wi price qty code : Int) (s : List Int × Int) : S29 × Int :=
  if s.2 ≠ 0 then (⟨0, 0, 0, 0, 0, 0, 0, 0, 0⟩, s.2)
  else if 0 < s.1.length ∨ 4611686018427387904 < seq ∨ 4611686018427387904 < tick then (⟨0, 0, 0, 0, 0, 0, 0, 0, 0⟩, 4)
  else if msgRight ⟨k, sym, seq, tick, id, wi, price, qty, code⟩ = false then (⟨0, 0, 0, 0, 0, 0, 0, 0, 0⟩, 4)
  else (⟨k, sym, seq, tick, id, wi, price, qty, code⟩, 0)
theorem mn_le2 {a b : Int} (h : ¬ b < a) : mn a b = a := by unfold mn; rw [if_neg (by omega)]
theorem mfin_eq (k sym seq tick id wi price qty code : Int) (s : List Int × Int) : msgFin k sym seq tick id wi price qty code s = refMFin k sym seq tick id wi price qty code s := by
  unfold msgFin refMFin
  by_cases hs : s.2 = 0
  · rw [if_neg (show ¬ s.2 ≠ 0 from fun h => h hs), if_neg (show ¬ s.2 ≠ 0 from fun h => h hs)]
    by_cases hl : 0 < s.1.length
    · rw [if_pos (Or.inl hl), if_pos (Or.inl hl)]
    · by_cases hi : 4611686018427387904 < seq
      · have e : mn seq 4611686018427387905 = 4611686018427387905 := by unfold mn; split <;> omega
        rw [if_pos (Or.inr (by rw [e]; simp [msgRight, within_])), if_pos (Or.inr (Or.inl hi))]
      · have e : mn seq 4611686018427387905 = seq := mn_le2 (by omega)
        rw [e]
        by_cases ho : 4611686018427387904 < tick
        · have e2 : mn tick 4611686018427387905 = 4611686018427387905 := by unfold mn; split <;> omega
          rw [if_pos (Or.inr (by rw [e2]; simp [msgRight, within_])), if_pos (Or.inr (Or.inr ho))]
        · have e2 : mn tick 4611686018427387905 = tick := mn_le2 (by omega)
          rw [e2, if_neg (show ¬ (0 < s.1.length ∨ 4611686018427387904 < seq ∨ 4611686018427387904 < tick) by omega)]
          by_cases hr : msgRight ⟨k, sym, seq, tick, id, wi, price, qty, code⟩ = false
          · rw [if_pos (Or.inr hr), if_pos hr]
          · rw [if_neg (by intro h; rcases h with h | h; exact hl h; exact hr h), if_neg hr]
  · rw [if_pos (show s.2 ≠ 0 from hs), if_pos (show s.2 ≠ 0 from hs)]
/-- A read, as the document's part tells it. -/
theorem rd_uint (l : List Int) (hb : Byt l) : (rUint (l, 0) 1).1 = (rdUint l 1).1 ∧ (rUint (l, 0) 1).2.2 = (rdUint l 1).2.2.2.2 ∧ 0 ≤ (rdUint l 1).2.2.2.1 ∧ (rdUint l 1).2.2.2.1 ≤ l.length ∧ ((rdUint l 1).2.2.2.2 = 0 → (rUint (l, 0) 1).2.1 = l.drop (rdUint l 1).2.2.2.1.toNat) := by
  have h := got_read l ⟨1, 1, 0, 0, []⟩
  rw [show gotF (l, 0) ⟨1, 1, 0, 0, []⟩ = ((rUint (l, 0) 1).1, 0, [], (rUint (l, 0) 1).2) from rfl, show readF l ⟨1, 1, 0, 0, []⟩ = rdUint l 1 from rfl] at h
  exact ⟨h.1, h.2.2.2.1, h.2.2.2.2.1, h.2.2.2.2.2.1, h.2.2.2.2.2.2⟩
theorem rd_num (l : List Int) (hb : Byt l) : (rNum (l, 0)).1 = (fin3 l (numGo 10 0 0 l)).1 ∧ (rNum (l, 0)).2.2 = (fin3 l (numGo 10 0 0 l)).2.2.2.2 ∧ 0 ≤ (fin3 l (numGo 10 0 0 l)).2.2.2.1 ∧ (fin3 l (numGo 10 0 0 l)).2.2.2.1 ≤ l.length ∧ ((fin3 l (numGo 10 0 0 l)).2.2.2.2 = 0 → (rNum (l, 0)).2.1 = l.drop (fin3 l (numGo 10 0 0 l)).2.2.2.1.toNat) := by
  have h := got_read l ⟨3, 0, 0, 0, []⟩
  rw [show gotF (l, 0) ⟨3, 0, 0, 0, []⟩ = ((rNum (l, 0)).1, 0, [], (rNum (l, 0)).2) from rfl, show readF l ⟨3, 0, 0, 0, []⟩ = fin3 l (numGo 10 0 0 l) from rfl] at h
  exact ⟨h.1, h.2.2.2.1, h.2.2.2.2.1, h.2.2.2.2.2.1, h.2.2.2.2.2.2⟩
theorem rd_int (l : List Int) (hb : Byt l) : unzig (rUint (l, 0) 8).1 = (rdInt l).2.1 ∧ (rUint (l, 0) 8).2.2 = (rdInt l).2.2.2.2 ∧ 0 ≤ (rdInt l).2.2.2.1 ∧ (rdInt l).2.2.2.1 ≤ l.length ∧ ((rdInt l).2.2.2.2 = 0 → (rUint (l, 0) 8).2.1 = l.drop (rdInt l).2.2.2.1.toNat) := by
  have h := got_read l ⟨2, 0, 0, 0, []⟩
  rw [show gotF (l, 0) ⟨2, 0, 0, 0, []⟩ = (0, unzig (rUint (l, 0) 8).1, [], (rUint (l, 0) 8).2) from rfl, show readF l ⟨2, 0, 0, 0, []⟩ = rdInt l from rfl] at h
  exact ⟨h.2.1, h.2.2.2.1, h.2.2.2.2.1, h.2.2.2.2.2.1, h.2.2.2.2.2.2⟩
end Go.Proofs.Ytalpemoodollpaa.P
-- Printed by hookprint.py (the session's own program, over the kit's print.py): checked by Lean like any text.
namespace Go.Proofs.Ytalpemoodollpaa.P
open Go.RowKit Go.Proofs.YtalpemoodollpaaW.PrintWords Go.Proofs.YtalpemoodollpaaW.PrintLast Go.Proofs.YtalpemoodollpaaW.PrintMore
attribute [local go_sem] max2_int min2_int max_two min_two max_three min_three max_four min_four   -- for this text's walks alone
set_option linter.unusedVariables false
set_option linter.unusedSimpArgs false

/-! ### damperref06_in: function 97 -/
def damperref06_in.f (a0 : Int) (a1 : Int) (a2 : Int) : Option (Bool) := if a0 ≥ a1 then (some (decide (a0 ≤ a2))) else (some false)
set_option maxHeartbeats 8000000 in
set_option maxRecDepth 100000 in
theorem damperref06_in.calls (a0 : Int) (a1 : Int) (a2 : Int) (r : Bool) (w : World) (h : damperref06_in.f a0 a1 a2 = some r) :
    Calls Try.prog 97 #[.int .i64 a0, .int .i64 a1, .int .i64 a2] w fun e w' => e = .returned (.bool r) ∧ Drawn0 w w' := by
  have H : (if a0 ≥ a1 then (some (decide (a0 ≤ a2))) else (some false)) = some r := h
  clear h
  by_cases c4 : a0 ≥ a1
  · rw [if_pos c4] at H
    have c4b0 : decide (a1 ≤ a0) = true := decide_eq_true c4
    clear c4
    obtain rfl := Option.some.inj H
    go_enter Try.func97, Try.ntmps97
    go_wp2
    go_ret
    exact ⟨by first | rfl | (simp; done) | (simp [*]; done), by repeat (first | exact Drawn0.refl _ | apply Drawn0.step)⟩
  · rw [if_neg c4] at H
    have c4b0 : decide (a1 ≤ a0) = false := decide_eq_false c4
    clear c4
    obtain rfl := Option.some.inj H
    go_enter Try.func97, Try.ntmps97
    go_wp2
    go_ret
    exact ⟨by first | rfl | (simp; done) | (simp [*]; done), by repeat (first | exact Drawn0.refl _ | apply Drawn0.step)⟩

end Go.Proofs.Ytalpemoodollpaa.P
-- Printed by hookprint.py (the session's own program, over the kit's print.py): checked by Lean like any text.
namespace Go.Proofs.Ytalpemoodollpaa.P
open Go.RowKit Go.Proofs.YtalpemoodollpaaW.PrintWords Go.Proofs.YtalpemoodollpaaW.PrintLast Go.Proofs.YtalpemoodollpaaW.PrintMore
attribute [local go_sem] max2_int min2_int max_two min_two max_three min_three max_four min_four   -- for this text's walks alone
set_option linter.unusedVariables false
set_option linter.unusedSimpArgs false

/-! ### damperref06_Right: function 33 -/
def damperref06_Right.f (a0_0 : Int) (a0_1 : Int) (a0_2 : Int) (a0_3 : Int) (a0_4 : Int) (a0_5 : Int) (a0_6 : Int) (a0_7 : Int) (a0_8 : Int) : Option (Bool) := (damperref06_in.f a0_0 1 9).bind fun t140 => (if t140 = true then ((damperref06_in.f a0_1 0 255).bind fun t141 => (if t141 = true then ((damperref06_in.f a0_8 0 255).bind fun t142 => (if t142 = true then ((damperref06_in.f a0_2 0 4611686018427387904).bind fun t143 => (if t143 = true then ((damperref06_in.f a0_3 0 4611686018427387904).bind fun t144 => (if t144 = true then ((damperref06_in.f a0_4 (-1) 4611686018427387904).bind fun t145 => (if t145 = true then ((damperref06_in.f a0_5 (-1) 4611686018427387904).bind fun t146 => (some t146)) else (some false))) else (some false))) else (some false))) else (some false))) else (some false))) else (some false))
set_option maxHeartbeats 8000000 in
set_option maxRecDepth 100000 in
theorem damperref06_Right.calls (a0_0 : Int) (a0_1 : Int) (a0_2 : Int) (a0_3 : Int) (a0_4 : Int) (a0_5 : Int) (a0_6 : Int) (a0_7 : Int) (a0_8 : Int) (r : Bool) (w : World) (h : damperref06_Right.f a0_0 a0_1 a0_2 a0_3 a0_4 a0_5 a0_6 a0_7 a0_8 = some r) :
    Calls Try.prog 33 #[.agg #[.int .i64 a0_0, .int .i64 a0_1, .int .i64 a0_2, .int .i64 a0_3, .int .i64 a0_4, .int .i64 a0_5, .int .i64 a0_6, .int .i64 a0_7, .int .i64 a0_8]] w fun e w' => e = .returned (.bool r) ∧ Below w.heap.size w w' := by
  have hu29 := Try.underlying29
  have HB := Aside0.mk (Below.refl w.heap.size w)
  have H : ((damperref06_in.f a0_0 1 9).bind fun t140 => (if t140 = true then ((damperref06_in.f a0_1 0 255).bind fun t141 => (if t141 = true then ((damperref06_in.f a0_8 0 255).bind fun t142 => (if t142 = true then ((damperref06_in.f a0_2 0 4611686018427387904).bind fun t143 => (if t143 = true then ((damperref06_in.f a0_3 0 4611686018427387904).bind fun t144 => (if t144 = true then ((damperref06_in.f a0_4 (-1) 4611686018427387904).bind fun t145 => (if t145 = true then ((damperref06_in.f a0_5 (-1) 4611686018427387904).bind fun t146 => (some t146)) else (some false))) else (some false))) else (some false))) else (some false))) else (some false))) else (some false))) = some r := h
  clear h
  replace H := Option.bind_eq_some_iff.mp H
  obtain ⟨t140, A20, H⟩ := H
  replace H : (if t140 = true then ((damperref06_in.f a0_1 0 255).bind fun t141 => (if t141 = true then ((damperref06_in.f a0_8 0 255).bind fun t142 => (if t142 = true then ((damperref06_in.f a0_2 0 4611686018427387904).bind fun t143 => (if t143 = true then ((damperref06_in.f a0_3 0 4611686018427387904).bind fun t144 => (if t144 = true then ((damperref06_in.f a0_4 (-1) 4611686018427387904).bind fun t145 => (if t145 = true then ((damperref06_in.f a0_5 (-1) 4611686018427387904).bind fun t146 => (some t146)) else (some false))) else (some false))) else (some false))) else (some false))) else (some false))) else (some false)) = some r := H
  have A2 := Aside0.mk A20
  clear A20
  by_cases c3 : t140 = true
  · subst c3
    have H1 : ((damperref06_in.f a0_1 0 255).bind fun t141 => (if t141 = true then ((damperref06_in.f a0_8 0 255).bind fun t142 => (if t142 = true then ((damperref06_in.f a0_2 0 4611686018427387904).bind fun t143 => (if t143 = true then ((damperref06_in.f a0_3 0 4611686018427387904).bind fun t144 => (if t144 = true then ((damperref06_in.f a0_4 (-1) 4611686018427387904).bind fun t145 => (if t145 = true then ((damperref06_in.f a0_5 (-1) 4611686018427387904).bind fun t146 => (some t146)) else (some false))) else (some false))) else (some false))) else (some false))) else (some false))) = some r := by rw [if_pos rfl] at H; exact H
    clear H
    have H := H1
    clear H1
    replace H := Option.bind_eq_some_iff.mp H
    obtain ⟨t141, A40, H⟩ := H
    replace H : (if t141 = true then ((damperref06_in.f a0_8 0 255).bind fun t142 => (if t142 = true then ((damperref06_in.f a0_2 0 4611686018427387904).bind fun t143 => (if t143 = true then ((damperref06_in.f a0_3 0 4611686018427387904).bind fun t144 => (if t144 = true then ((damperref06_in.f a0_4 (-1) 4611686018427387904).bind fun t145 => (if t145 = true then ((damperref06_in.f a0_5 (-1) 4611686018427387904).bind fun t146 => (some t146)) else (some false))) else (some false))) else (some false))) else (some false))) else (some false)) = some r := H
    have A4 := Aside0.mk A40
    clear A40
    by_cases c5 : t141 = true
    · subst c5
      have H1 : ((damperref06_in.f a0_8 0 255).bind fun t142 => (if t142 = true then ((damperref06_in.f a0_2 0 4611686018427387904).bind fun t143 => (if t143 = true then ((damperref06_in.f a0_3 0 4611686018427387904).bind fun t144 => (if t144 = true then ((damperref06_in.f a0_4 (-1) 4611686018427387904).bind fun t145 => (if t145 = true then ((damperref06_in.f a0_5 (-1) 4611686018427387904).bind fun t146 => (some t146)) else (some false))) else (some false))) else (some false))) else (some false))) = some r := by rw [if_pos rfl] at H; exact H
      clear H
      have H := H1
      clear H1
      replace H := Option.bind_eq_some_iff.mp H
      obtain ⟨t142, A60, H⟩ := H
      replace H : (if t142 = true then ((damperref06_in.f a0_2 0 4611686018427387904).bind fun t143 => (if t143 = true then ((damperref06_in.f a0_3 0 4611686018427387904).bind fun t144 => (if t144 = true then ((damperref06_in.f a0_4 (-1) 4611686018427387904).bind fun t145 => (if t145 = true then ((damperref06_in.f a0_5 (-1) 4611686018427387904).bind fun t146 => (some t146)) else (some false))) else (some false))) else (some false))) else (some false)) = some r := H
      have A6 := Aside0.mk A60
      clear A60
      by_cases c7 : t142 = true
      · subst c7
        have H1 : ((damperref06_in.f a0_2 0 4611686018427387904).bind fun t143 => (if t143 = true then ((damperref06_in.f a0_3 0 4611686018427387904).bind fun t144 => (if t144 = true then ((damperref06_in.f a0_4 (-1) 4611686018427387904).bind fun t145 => (if t145 = true then ((damperref06_in.f a0_5 (-1) 4611686018427387904).bind fun t146 => (some t146)) else (some false))) else (some false))) else (some false))) = some r := by rw [if_pos rfl] at H; exact H
        clear H
        have H := H1
        clear H1
        replace H := Option.bind_eq_some_iff.mp H
        obtain ⟨t143, A80, H⟩ := H
        replace H : (if t143 = true then ((damperref06_in.f a0_3 0 4611686018427387904).bind fun t144 => (if t144 = true then ((damperref06_in.f a0_4 (-1) 4611686018427387904).bind fun t145 => (if t145 = true then ((damperref06_in.f a0_5 (-1) 4611686018427387904).bind fun t146 => (some t146)) else (some false))) else (some false))) else (some false)) = some r := H
        have A8 := Aside0.mk A80
        clear A80
        by_cases c9 : t143 = true
        · subst c9
          have H1 : ((damperref06_in.f a0_3 0 4611686018427387904).bind fun t144 => (if t144 = true then ((damperref06_in.f a0_4 (-1) 4611686018427387904).bind fun t145 => (if t145 = true then ((damperref06_in.f a0_5 (-1) 4611686018427387904).bind fun t146 => (some t146)) else (some false))) else (some false))) = some r := by rw [if_pos rfl] at H; exact H
          clear H
          have H := H1
          clear H1
          replace H := Option.bind_eq_some_iff.mp H
          obtain ⟨t144, A100, H⟩ := H
          replace H : (if t144 = true then ((damperref06_in.f a0_4 (-1) 4611686018427387904).bind fun t145 => (if t145 = true then ((damperref06_in.f a0_5 (-1) 4611686018427387904).bind fun t146 => (some t146)) else (some false))) else (some false)) = some r := H
          have A10 := Aside0.mk A100
          clear A100
          by_cases c11 : t144 = true
          · subst c11
            have H1 : ((damperref06_in.f a0_4 (-1) 4611686018427387904).bind fun t145 => (if t145 = true then ((damperref06_in.f a0_5 (-1) 4611686018427387904).bind fun t146 => (some t146)) else (some false))) = some r := by rw [if_pos rfl] at H; exact H
            clear H
            have H := H1
            clear H1
            replace H := Option.bind_eq_some_iff.mp H
            obtain ⟨t145, A120, H⟩ := H
            replace H : (if t145 = true then ((damperref06_in.f a0_5 (-1) 4611686018427387904).bind fun t146 => (some t146)) else (some false)) = some r := H
            have A12 := Aside0.mk A120
            clear A120
            by_cases c13 : t145 = true
            · subst c13
              have H1 : ((damperref06_in.f a0_5 (-1) 4611686018427387904).bind fun t146 => (some t146)) = some r := by rw [if_pos rfl] at H; exact H
              clear H
              have H := H1
              clear H1
              replace H := Option.bind_eq_some_iff.mp H
              obtain ⟨t146, A140, H⟩ := H
              replace H : (some t146) = some r := H
              have A14 := Aside0.mk A140
              clear A140
              obtain rfl := Option.some.inj H
              go_enter Try.func33, Try.ntmps33
              go_wp2_with (first | ((with_reducible refine gate_dst (N := 1) rfl ?_); refine box_event ?hg (N := 1) ?hd (cs := #[.int .i64 a0_0, .int .i64 a0_1, .int .i64 a0_2, .int .i64 a0_3, .int .i64 a0_4, .int .i64 a0_5, .int .i64 a0_6, .int .i64 a0_7, .int .i64 a0_8]) (t := 29) ?hr ?_; (case hd => rfl); (case hg => rfl); (case hr => first | (go_simp; done) | (go_simp; rfl)); intro gb139 hg w15 hbox hb; have n0_ := Aside0.mk (below_step (by repeat (first | (with_reducible first | exact HB.out | apply below_alloc | apply pw_below_drewN | apply below_drew1) | exact HB.out)) hb); have n1_ := Aside0.mk (hbox); have n2_ := Aside0.mk ((by rw [hg]; exact (below_size (by repeat (first | (with_reducible first | exact HB.out | apply below_alloc | apply pw_below_drewN | apply below_drew1) | exact HB.out))) : w.heap.size ≤ gb139)); have n3_ := Aside0.mk ((by rw [hg]; exact (below_size (by repeat (first | (with_reducible first | exact HB.out | apply below_alloc | apply pw_below_drewN | apply below_drew1) | exact HB.out))) : w.heap.size ≤ gb139)); clear HB; have HB := n0_; have BK139 := n1_; have GW139 := n2_; have GE139 := n3_; clear n0_ n1_ n2_ n3_; clear hb hbox hg; have hcz16_0 : w15.cell? ⟨gb139, 0, none⟩ = some (.int .i64 a0_0) := (blk_cell BK139.out 0).trans rfl; have hcz16_1 : w15.cell? ⟨gb139, 1, none⟩ = some (.int .i64 a0_1) := (blk_cell BK139.out 1).trans rfl; have hcz16_2 : w15.cell? ⟨gb139, 2, none⟩ = some (.int .i64 a0_2) := (blk_cell BK139.out 2).trans rfl; have hcz16_3 : w15.cell? ⟨gb139, 3, none⟩ = some (.int .i64 a0_3) := (blk_cell BK139.out 3).trans rfl; have hcz16_4 : w15.cell? ⟨gb139, 4, none⟩ = some (.int .i64 a0_4) := (blk_cell BK139.out 4).trans rfl; have hcz16_5 : w15.cell? ⟨gb139, 5, none⟩ = some (.int .i64 a0_5) := (blk_cell BK139.out 5).trans rfl; have hcz16_6 : w15.cell? ⟨gb139, 6, none⟩ = some (.int .i64 a0_6) := (blk_cell BK139.out 6).trans rfl; have hcz16_7 : w15.cell? ⟨gb139, 7, none⟩ = some (.int .i64 a0_7) := (blk_cell BK139.out 7).trans rfl; have hcz16_8 : w15.cell? ⟨gb139, 8, none⟩ = some (.int .i64 a0_8) := (blk_cell BK139.out 8).trans rfl; have hfz16_0 := blk_frozen BK139.out 0; have hfz16_1 := blk_frozen BK139.out 1; have hfz16_2 := blk_frozen BK139.out 2; have hfz16_3 := blk_frozen BK139.out 3; have hfz16_4 := blk_frozen BK139.out 4; have hfz16_5 := blk_frozen BK139.out 5; have hfz16_6 := blk_frozen BK139.out 6; have hfz16_7 := blk_frozen BK139.out 7; have hfz16_8 := blk_frozen BK139.out 8) | ((with_reducible refine gate_callee (f := 97) rfl ?_); refine goesL_ (some 5) rfl rfl Try.func97 (by kernel_rfl) rfl #[.int .i64 a0_0, .int .i64 1, .int .i64 9] rfl (by (try simp only [List.map_toArray, List.map_cons, List.map_nil]); first | done | rfl | (simp only [List.length_drop, List.length_take]; rfl)) ?_; (with_reducible refine (damperref06_in.calls a0_0 1 9 true _ A2.out).mono ?_); rintro e w' ⟨rfl, ⟨nd, rfl⟩⟩; refine ⟨_, rfl, ?_⟩) | (go_at_call 97; (with_reducible refine (damperref06_in.calls a0_1 0 255 true _ A4.out).mono ?_); rintro e w' ⟨rfl, ⟨nd, rfl⟩⟩) | (go_at_call 97; (with_reducible refine (damperref06_in.calls a0_8 0 255 true _ A6.out).mono ?_); rintro e w' ⟨rfl, ⟨nd, rfl⟩⟩) | (go_at_call 97; (with_reducible refine (damperref06_in.calls a0_2 0 4611686018427387904 true _ A8.out).mono ?_); rintro e w' ⟨rfl, ⟨nd, rfl⟩⟩) | (go_at_call 97; (with_reducible refine (damperref06_in.calls a0_3 0 4611686018427387904 true _ A10.out).mono ?_); rintro e w' ⟨rfl, ⟨nd, rfl⟩⟩) | (go_at_call 97; (with_reducible refine (damperref06_in.calls a0_4 (-1) 4611686018427387904 true _ A12.out).mono ?_); rintro e w' ⟨rfl, ⟨nd, rfl⟩⟩) | (go_at_call 97; (with_reducible refine (damperref06_in.calls a0_5 (-1) 4611686018427387904 t146 _ A14.out).mono ?_); rintro e w' ⟨rfl, ⟨nd, rfl⟩⟩))
              go_ret
              exact ⟨by first | rfl | (simp [errW_none, errW_some] <;> rfl) | (simp [*, errW_none, errW_some] <;> rfl), by repeat (first | (with_reducible first | exact HB.out | apply below_alloc | apply pw_below_drewN | apply below_drew1 | refine below_set ?_ GE139.out) | exact HB.out)⟩
            · replace c13 := Bool.eq_false_iff.mpr c13
              subst c13
              have H1 : (some false) = some r := by rw [if_neg (show ¬ (false = true) by decide)] at H; exact H
              clear H
              have H := H1
              clear H1
              obtain rfl := Option.some.inj H
              go_enter Try.func33, Try.ntmps33
              go_wp2_with (first | ((with_reducible refine gate_dst (N := 1) rfl ?_); refine box_event ?hg (N := 1) ?hd (cs := #[.int .i64 a0_0, .int .i64 a0_1, .int .i64 a0_2, .int .i64 a0_3, .int .i64 a0_4, .int .i64 a0_5, .int .i64 a0_6, .int .i64 a0_7, .int .i64 a0_8]) (t := 29) ?hr ?_; (case hd => rfl); (case hg => rfl); (case hr => first | (go_simp; done) | (go_simp; rfl)); intro gb139 hg w17 hbox hb; have n0_ := Aside0.mk (below_step (by repeat (first | (with_reducible first | exact HB.out | apply below_alloc | apply pw_below_drewN | apply below_drew1) | exact HB.out)) hb); have n1_ := Aside0.mk (hbox); have n2_ := Aside0.mk ((by rw [hg]; exact (below_size (by repeat (first | (with_reducible first | exact HB.out | apply below_alloc | apply pw_below_drewN | apply below_drew1) | exact HB.out))) : w.heap.size ≤ gb139)); have n3_ := Aside0.mk ((by rw [hg]; exact (below_size (by repeat (first | (with_reducible first | exact HB.out | apply below_alloc | apply pw_below_drewN | apply below_drew1) | exact HB.out))) : w.heap.size ≤ gb139)); clear HB; have HB := n0_; have BK139 := n1_; have GW139 := n2_; have GE139 := n3_; clear n0_ n1_ n2_ n3_; clear hb hbox hg; have hcz18_0 : w17.cell? ⟨gb139, 0, none⟩ = some (.int .i64 a0_0) := (blk_cell BK139.out 0).trans rfl; have hcz18_1 : w17.cell? ⟨gb139, 1, none⟩ = some (.int .i64 a0_1) := (blk_cell BK139.out 1).trans rfl; have hcz18_2 : w17.cell? ⟨gb139, 2, none⟩ = some (.int .i64 a0_2) := (blk_cell BK139.out 2).trans rfl; have hcz18_3 : w17.cell? ⟨gb139, 3, none⟩ = some (.int .i64 a0_3) := (blk_cell BK139.out 3).trans rfl; have hcz18_4 : w17.cell? ⟨gb139, 4, none⟩ = some (.int .i64 a0_4) := (blk_cell BK139.out 4).trans rfl; have hcz18_5 : w17.cell? ⟨gb139, 5, none⟩ = some (.int .i64 a0_5) := (blk_cell BK139.out 5).trans rfl; have hcz18_6 : w17.cell? ⟨gb139, 6, none⟩ = some (.int .i64 a0_6) := (blk_cell BK139.out 6).trans rfl; have hcz18_7 : w17.cell? ⟨gb139, 7, none⟩ = some (.int .i64 a0_7) := (blk_cell BK139.out 7).trans rfl; have hcz18_8 : w17.cell? ⟨gb139, 8, none⟩ = some (.int .i64 a0_8) := (blk_cell BK139.out 8).trans rfl; have hfz18_0 := blk_frozen BK139.out 0; have hfz18_1 := blk_frozen BK139.out 1; have hfz18_2 := blk_frozen BK139.out 2; have hfz18_3 := blk_frozen BK139.out 3; have hfz18_4 := blk_frozen BK139.out 4; have hfz18_5 := blk_frozen BK139.out 5; have hfz18_6 := blk_frozen BK139.out 6; have hfz18_7 := blk_frozen BK139.out 7; have hfz18_8 := blk_frozen BK139.out 8) | ((with_reducible refine gate_callee (f := 97) rfl ?_); refine goesL_ (some 5) rfl rfl Try.func97 (by kernel_rfl) rfl #[.int .i64 a0_0, .int .i64 1, .int .i64 9] rfl (by (try simp only [List.map_toArray, List.map_cons, List.map_nil]); first | done | rfl | (simp only [List.length_drop, List.length_take]; rfl)) ?_; (with_reducible refine (damperref06_in.calls a0_0 1 9 true _ A2.out).mono ?_); rintro e w' ⟨rfl, ⟨nd, rfl⟩⟩; refine ⟨_, rfl, ?_⟩) | (go_at_call 97; (with_reducible refine (damperref06_in.calls a0_1 0 255 true _ A4.out).mono ?_); rintro e w' ⟨rfl, ⟨nd, rfl⟩⟩) | (go_at_call 97; (with_reducible refine (damperref06_in.calls a0_8 0 255 true _ A6.out).mono ?_); rintro e w' ⟨rfl, ⟨nd, rfl⟩⟩) | (go_at_call 97; (with_reducible refine (damperref06_in.calls a0_2 0 4611686018427387904 true _ A8.out).mono ?_); rintro e w' ⟨rfl, ⟨nd, rfl⟩⟩) | (go_at_call 97; (with_reducible refine (damperref06_in.calls a0_3 0 4611686018427387904 true _ A10.out).mono ?_); rintro e w' ⟨rfl, ⟨nd, rfl⟩⟩) | (go_at_call 97; (with_reducible refine (damperref06_in.calls a0_4 (-1) 4611686018427387904 false _ A12.out).mono ?_); rintro e w' ⟨rfl, ⟨nd, rfl⟩⟩))
              go_ret
              exact ⟨by first | rfl | (simp [errW_none, errW_some] <;> rfl) | (simp [*, errW_none, errW_some] <;> rfl), by repeat (first | (with_reducible first | exact HB.out | apply below_alloc | apply pw_below_drewN | apply below_drew1 | refine below_set ?_ GE139.out) | exact HB.out)⟩
          · replace c11 := Bool.eq_false_iff.mpr c11
            subst c11
            have H1 : (some false) = some r := by rw [if_neg (show ¬ (false = true) by decide)] at H; exact H
            clear H
            have H := H1
            clear H1
            obtain rfl := Option.some.inj H
            go_enter Try.func33, Try.ntmps33
            go_wp2_with (first | ((with_reducible refine gate_dst (N := 1) rfl ?_); refine box_event ?hg (N := 1) ?hd (cs := #[.int .i64 a0_0, .int .i64 a0_1, .int .i64 a0_2, .int .i64 a0_3, .int .i64 a0_4, .int .i64 a0_5, .int .i64 a0_6, .int .i64 a0_7, .int .i64 a0_8]) (t := 29) ?hr ?_; (case hd => rfl); (case hg => rfl); (case hr => first | (go_simp; done) | (go_simp; rfl)); intro gb139 hg w19 hbox hb; have n0_ := Aside0.mk (below_step (by repeat (first | (with_reducible first | exact HB.out | apply below_alloc | apply pw_below_drewN | apply below_drew1) | exact HB.out)) hb); have n1_ := Aside0.mk (hbox); have n2_ := Aside0.mk ((by rw [hg]; exact (below_size (by repeat (first | (with_reducible first | exact HB.out | apply below_alloc | apply pw_below_drewN | apply below_drew1) | exact HB.out))) : w.heap.size ≤ gb139)); have n3_ := Aside0.mk ((by rw [hg]; exact (below_size (by repeat (first | (with_reducible first | exact HB.out | apply below_alloc | apply pw_below_drewN | apply below_drew1) | exact HB.out))) : w.heap.size ≤ gb139)); clear HB; have HB := n0_; have BK139 := n1_; have GW139 := n2_; have GE139 := n3_; clear n0_ n1_ n2_ n3_; clear hb hbox hg; have hcz20_0 : w19.cell? ⟨gb139, 0, none⟩ = some (.int .i64 a0_0) := (blk_cell BK139.out 0).trans rfl; have hcz20_1 : w19.cell? ⟨gb139, 1, none⟩ = some (.int .i64 a0_1) := (blk_cell BK139.out 1).trans rfl; have hcz20_2 : w19.cell? ⟨gb139, 2, none⟩ = some (.int .i64 a0_2) := (blk_cell BK139.out 2).trans rfl; have hcz20_3 : w19.cell? ⟨gb139, 3, none⟩ = some (.int .i64 a0_3) := (blk_cell BK139.out 3).trans rfl; have hcz20_4 : w19.cell? ⟨gb139, 4, none⟩ = some (.int .i64 a0_4) := (blk_cell BK139.out 4).trans rfl; have hcz20_5 : w19.cell? ⟨gb139, 5, none⟩ = some (.int .i64 a0_5) := (blk_cell BK139.out 5).trans rfl; have hcz20_6 : w19.cell? ⟨gb139, 6, none⟩ = some (.int .i64 a0_6) := (blk_cell BK139.out 6).trans rfl; have hcz20_7 : w19.cell? ⟨gb139, 7, none⟩ = some (.int .i64 a0_7) := (blk_cell BK139.out 7).trans rfl; have hcz20_8 : w19.cell? ⟨gb139, 8, none⟩ = some (.int .i64 a0_8) := (blk_cell BK139.out 8).trans rfl; have hfz20_0 := blk_frozen BK139.out 0; have hfz20_1 := blk_frozen BK139.out 1; have hfz20_2 := blk_frozen BK139.out 2; have hfz20_3 := blk_frozen BK139.out 3; have hfz20_4 := blk_frozen BK139.out 4; have hfz20_5 := blk_frozen BK139.out 5; have hfz20_6 := blk_frozen BK139.out 6; have hfz20_7 := blk_frozen BK139.out 7; have hfz20_8 := blk_frozen BK139.out 8) | ((with_reducible refine gate_callee (f := 97) rfl ?_); refine goesL_ (some 5) rfl rfl Try.func97 (by kernel_rfl) rfl #[.int .i64 a0_0, .int .i64 1, .int .i64 9] rfl (by (try simp only [List.map_toArray, List.map_cons, List.map_nil]); first | done | rfl | (simp only [List.length_drop, List.length_take]; rfl)) ?_; (with_reducible refine (damperref06_in.calls a0_0 1 9 true _ A2.out).mono ?_); rintro e w' ⟨rfl, ⟨nd, rfl⟩⟩; refine ⟨_, rfl, ?_⟩) | (go_at_call 97; (with_reducible refine (damperref06_in.calls a0_1 0 255 true _ A4.out).mono ?_); rintro e w' ⟨rfl, ⟨nd, rfl⟩⟩) | (go_at_call 97; (with_reducible refine (damperref06_in.calls a0_8 0 255 true _ A6.out).mono ?_); rintro e w' ⟨rfl, ⟨nd, rfl⟩⟩) | (go_at_call 97; (with_reducible refine (damperref06_in.calls a0_2 0 4611686018427387904 true _ A8.out).mono ?_); rintro e w' ⟨rfl, ⟨nd, rfl⟩⟩) | (go_at_call 97; (with_reducible refine (damperref06_in.calls a0_3 0 4611686018427387904 false _ A10.out).mono ?_); rintro e w' ⟨rfl, ⟨nd, rfl⟩⟩))
            go_ret
            exact ⟨by first | rfl | (simp [errW_none, errW_some] <;> rfl) | (simp [*, errW_none, errW_some] <;> rfl), by repeat (first | (with_reducible first | exact HB.out | apply below_alloc | apply pw_below_drewN | apply below_drew1 | refine below_set ?_ GE139.out) | exact HB.out)⟩
        · replace c9 := Bool.eq_false_iff.mpr c9
          subst c9
          have H1 : (some false) = some r := by rw [if_neg (show ¬ (false = true) by decide)] at H; exact H
          clear H
          have H := H1
          clear H1
          obtain rfl := Option.some.inj H
          go_enter Try.func33, Try.ntmps33
          go_wp2_with (first | ((with_reducible refine gate_dst (N := 1) rfl ?_); refine box_event ?hg (N := 1) ?hd (cs := #[.int .i64 a0_0, .int .i64 a0_1, .int .i64 a0_2, .int .i64 a0_3, .int .i64 a0_4, .int .i64 a0_5, .int .i64 a0_6, .int .i64 a0_7, .int .i64 a0_8]) (t := 29) ?hr ?_; (case hd => rfl); (case hg => rfl); (case hr => first | (go_simp; done) | (go_simp; rfl)); intro gb139 hg w21 hbox hb; have n0_ := Aside0.mk (below_step (by repeat (first | (with_reducible first | exact HB.out | apply below_alloc | apply pw_below_drewN | apply below_drew1) | exact HB.out)) hb); have n1_ := Aside0.mk (hbox); have n2_ := Aside0.mk ((by rw [hg]; exact (below_size (by repeat (first | (with_reducible first | exact HB.out | apply below_alloc | apply pw_below_drewN | apply below_drew1) | exact HB.out))) : w.heap.size ≤ gb139)); have n3_ := Aside0.mk ((by rw [hg]; exact (below_size (by repeat (first | (with_reducible first | exact HB.out | apply below_alloc | apply pw_below_drewN | apply below_drew1) | exact HB.out))) : w.heap.size ≤ gb139)); clear HB; have HB := n0_; have BK139 := n1_; have GW139 := n2_; have GE139 := n3_; clear n0_ n1_ n2_ n3_; clear hb hbox hg; have hcz22_0 : w21.cell? ⟨gb139, 0, none⟩ = some (.int .i64 a0_0) := (blk_cell BK139.out 0).trans rfl; have hcz22_1 : w21.cell? ⟨gb139, 1, none⟩ = some (.int .i64 a0_1) := (blk_cell BK139.out 1).trans rfl; have hcz22_2 : w21.cell? ⟨gb139, 2, none⟩ = some (.int .i64 a0_2) := (blk_cell BK139.out 2).trans rfl; have hcz22_3 : w21.cell? ⟨gb139, 3, none⟩ = some (.int .i64 a0_3) := (blk_cell BK139.out 3).trans rfl; have hcz22_4 : w21.cell? ⟨gb139, 4, none⟩ = some (.int .i64 a0_4) := (blk_cell BK139.out 4).trans rfl; have hcz22_5 : w21.cell? ⟨gb139, 5, none⟩ = some (.int .i64 a0_5) := (blk_cell BK139.out 5).trans rfl; have hcz22_6 : w21.cell? ⟨gb139, 6, none⟩ = some (.int .i64 a0_6) := (blk_cell BK139.out 6).trans rfl; have hcz22_7 : w21.cell? ⟨gb139, 7, none⟩ = some (.int .i64 a0_7) := (blk_cell BK139.out 7).trans rfl; have hcz22_8 : w21.cell? ⟨gb139, 8, none⟩ = some (.int .i64 a0_8) := (blk_cell BK139.out 8).trans rfl; have hfz22_0 := blk_frozen BK139.out 0; have hfz22_1 := blk_frozen BK139.out 1; have hfz22_2 := blk_frozen BK139.out 2; have hfz22_3 := blk_frozen BK139.out 3; have hfz22_4 := blk_frozen BK139.out 4; have hfz22_5 := blk_frozen BK139.out 5; have hfz22_6 := blk_frozen BK139.out 6; have hfz22_7 := blk_frozen BK139.out 7; have hfz22_8 := blk_frozen BK139.out 8) | ((with_reducible refine gate_callee (f := 97) rfl ?_); refine goesL_ (some 5) rfl rfl Try.func97 (by kernel_rfl) rfl #[.int .i64 a0_0, .int .i64 1, .int .i64 9] rfl (by (try simp only [List.map_toArray, List.map_cons, List.map_nil]); first | done | rfl | (simp only [List.length_drop, List.length_take]; rfl)) ?_; (with_reducible refine (damperref06_in.calls a0_0 1 9 true _ A2.out).mono ?_); rintro e w' ⟨rfl, ⟨nd, rfl⟩⟩; refine ⟨_, rfl, ?_⟩) | (go_at_call 97; (with_reducible refine (damperref06_in.calls a0_1 0 255 true _ A4.out).mono ?_); rintro e w' ⟨rfl, ⟨nd, rfl⟩⟩) | (go_at_call 97; (with_reducible refine (damperref06_in.calls a0_8 0 255 true _ A6.out).mono ?_); rintro e w' ⟨rfl, ⟨nd, rfl⟩⟩) | (go_at_call 97; (with_reducible refine (damperref06_in.calls a0_2 0 4611686018427387904 false _ A8.out).mono ?_); rintro e w' ⟨rfl, ⟨nd, rfl⟩⟩))
          go_ret
          exact ⟨by first | rfl | (simp [errW_none, errW_some] <;> rfl) | (simp [*, errW_none, errW_some] <;> rfl), by repeat (first | (with_reducible first | exact HB.out | apply below_alloc | apply pw_below_drewN | apply below_drew1 | refine below_set ?_ GE139.out) | exact HB.out)⟩
      · replace c7 := Bool.eq_false_iff.mpr c7
        subst c7
        have H1 : (some false) = some r := by rw [if_neg (show ¬ (false = true) by decide)] at H; exact H
        clear H
        have H := H1
        clear H1
        obtain rfl := Option.some.inj H
        go_enter Try.func33, Try.ntmps33
        go_wp2_with (first | ((with_reducible refine gate_dst (N := 1) rfl ?_); refine box_event ?hg (N := 1) ?hd (cs := #[.int .i64 a0_0, .int .i64 a0_1, .int .i64 a0_2, .int .i64 a0_3, .int .i64 a0_4, .int .i64 a0_5, .int .i64 a0_6, .int .i64 a0_7, .int .i64 a0_8]) (t := 29) ?hr ?_; (case hd => rfl); (case hg => rfl); (case hr => first | (go_simp; done) | (go_simp; rfl)); intro gb139 hg w23 hbox hb; have n0_ := Aside0.mk (below_step (by repeat (first | (with_reducible first | exact HB.out | apply below_alloc | apply pw_below_drewN | apply below_drew1) | exact HB.out)) hb); have n1_ := Aside0.mk (hbox); have n2_ := Aside0.mk ((by rw [hg]; exact (below_size (by repeat (first | (with_reducible first | exact HB.out | apply below_alloc | apply pw_below_drewN | apply below_drew1) | exact HB.out))) : w.heap.size ≤ gb139)); have n3_ := Aside0.mk ((by rw [hg]; exact (below_size (by repeat (first | (with_reducible first | exact HB.out | apply below_alloc | apply pw_below_drewN | apply below_drew1) | exact HB.out))) : w.heap.size ≤ gb139)); clear HB; have HB := n0_; have BK139 := n1_; have GW139 := n2_; have GE139 := n3_; clear n0_ n1_ n2_ n3_; clear hb hbox hg; have hcz24_0 : w23.cell? ⟨gb139, 0, none⟩ = some (.int .i64 a0_0) := (blk_cell BK139.out 0).trans rfl; have hcz24_1 : w23.cell? ⟨gb139, 1, none⟩ = some (.int .i64 a0_1) := (blk_cell BK139.out 1).trans rfl; have hcz24_2 : w23.cell? ⟨gb139, 2, none⟩ = some (.int .i64 a0_2) := (blk_cell BK139.out 2).trans rfl; have hcz24_3 : w23.cell? ⟨gb139, 3, none⟩ = some (.int .i64 a0_3) := (blk_cell BK139.out 3).trans rfl; have hcz24_4 : w23.cell? ⟨gb139, 4, none⟩ = some (.int .i64 a0_4) := (blk_cell BK139.out 4).trans rfl; have hcz24_5 : w23.cell? ⟨gb139, 5, none⟩ = some (.int .i64 a0_5) := (blk_cell BK139.out 5).trans rfl; have hcz24_6 : w23.cell? ⟨gb139, 6, none⟩ = some (.int .i64 a0_6) := (blk_cell BK139.out 6).trans rfl; have hcz24_7 : w23.cell? ⟨gb139, 7, none⟩ = some (.int .i64 a0_7) := (blk_cell BK139.out 7).trans rfl; have hcz24_8 : w23.cell? ⟨gb139, 8, none⟩ = some (.int .i64 a0_8) := (blk_cell BK139.out 8).trans rfl; have hfz24_0 := blk_frozen BK139.out 0; have hfz24_1 := blk_frozen BK139.out 1; have hfz24_2 := blk_frozen BK139.out 2; have hfz24_3 := blk_frozen BK139.out 3; have hfz24_4 := blk_frozen BK139.out 4; have hfz24_5 := blk_frozen BK139.out 5; have hfz24_6 := blk_frozen BK139.out 6; have hfz24_7 := blk_frozen BK139.out 7; have hfz24_8 := blk_frozen BK139.out 8) | ((with_reducible refine gate_callee (f := 97) rfl ?_); refine goesL_ (some 5) rfl rfl Try.func97 (by kernel_rfl) rfl #[.int .i64 a0_0, .int .i64 1, .int .i64 9] rfl (by (try simp only [List.map_toArray, List.map_cons, List.map_nil]); first | done | rfl | (simp only [List.length_drop, List.length_take]; rfl)) ?_; (with_reducible refine (damperref06_in.calls a0_0 1 9 true _ A2.out).mono ?_); rintro e w' ⟨rfl, ⟨nd, rfl⟩⟩; refine ⟨_, rfl, ?_⟩) | (go_at_call 97; (with_reducible refine (damperref06_in.calls a0_1 0 255 true _ A4.out).mono ?_); rintro e w' ⟨rfl, ⟨nd, rfl⟩⟩) | (go_at_call 97; (with_reducible refine (damperref06_in.calls a0_8 0 255 false _ A6.out).mono ?_); rintro e w' ⟨rfl, ⟨nd, rfl⟩⟩))
        go_ret
        exact ⟨by first | rfl | (simp [errW_none, errW_some] <;> rfl) | (simp [*, errW_none, errW_some] <;> rfl), by repeat (first | (with_reducible first | exact HB.out | apply below_alloc | apply pw_below_drewN | apply below_drew1 | refine below_set ?_ GE139.out) | exact HB.out)⟩
    · replace c5 := Bool.eq_false_iff.mpr c5
      subst c5
      have H1 : (some false) = some r := by rw [if_neg (show ¬ (false = true) by decide)] at H; exact H
      clear H
      have H := H1
      clear H1
      obtain rfl := Option.some.inj H
      go_enter Try.func33, Try.ntmps33
      go_wp2_with (first | ((with_reducible refine gate_dst (N := 1) rfl ?_); refine box_event ?hg (N := 1) ?hd (cs := #[.int .i64 a0_0, .int .i64 a0_1, .int .i64 a0_2, .int .i64 a0_3, .int .i64 a0_4, .int .i64 a0_5, .int .i64 a0_6, .int .i64 a0_7, .int .i64 a0_8]) (t := 29) ?hr ?_; (case hd => rfl); (case hg => rfl); (case hr => first | (go_simp; done) | (go_simp; rfl)); intro gb139 hg w25 hbox hb; have n0_ := Aside0.mk (below_step (by repeat (first | (with_reducible first | exact HB.out | apply below_alloc | apply pw_below_drewN | apply below_drew1) | exact HB.out)) hb); have n1_ := Aside0.mk (hbox); have n2_ := Aside0.mk ((by rw [hg]; exact (below_size (by repeat (first | (with_reducible first | exact HB.out | apply below_alloc | apply pw_below_drewN | apply below_drew1) | exact HB.out))) : w.heap.size ≤ gb139)); have n3_ := Aside0.mk ((by rw [hg]; exact (below_size (by repeat (first | (with_reducible first | exact HB.out | apply below_alloc | apply pw_below_drewN | apply below_drew1) | exact HB.out))) : w.heap.size ≤ gb139)); clear HB; have HB := n0_; have BK139 := n1_; have GW139 := n2_; have GE139 := n3_; clear n0_ n1_ n2_ n3_; clear hb hbox hg; have hcz26_0 : w25.cell? ⟨gb139, 0, none⟩ = some (.int .i64 a0_0) := (blk_cell BK139.out 0).trans rfl; have hcz26_1 : w25.cell? ⟨gb139, 1, none⟩ = some (.int .i64 a0_1) := (blk_cell BK139.out 1).trans rfl; have hcz26_2 : w25.cell? ⟨gb139, 2, none⟩ = some (.int .i64 a0_2) := (blk_cell BK139.out 2).trans rfl; have hcz26_3 : w25.cell? ⟨gb139, 3, none⟩ = some (.int .i64 a0_3) := (blk_cell BK139.out 3).trans rfl; have hcz26_4 : w25.cell? ⟨gb139, 4, none⟩ = some (.int .i64 a0_4) := (blk_cell BK139.out 4).trans rfl; have hcz26_5 : w25.cell? ⟨gb139, 5, none⟩ = some (.int .i64 a0_5) := (blk_cell BK139.out 5).trans rfl; have hcz26_6 : w25.cell? ⟨gb139, 6, none⟩ = some (.int .i64 a0_6) := (blk_cell BK139.out 6).trans rfl; have hcz26_7 : w25.cell? ⟨gb139, 7, none⟩ = some (.int .i64 a0_7) := (blk_cell BK139.out 7).trans rfl; have hcz26_8 : w25.cell? ⟨gb139, 8, none⟩ = some (.int .i64 a0_8) := (blk_cell BK139.out 8).trans rfl; have hfz26_0 := blk_frozen BK139.out 0; have hfz26_1 := blk_frozen BK139.out 1; have hfz26_2 := blk_frozen BK139.out 2; have hfz26_3 := blk_frozen BK139.out 3; have hfz26_4 := blk_frozen BK139.out 4; have hfz26_5 := blk_frozen BK139.out 5; have hfz26_6 := blk_frozen BK139.out 6; have hfz26_7 := blk_frozen BK139.out 7; have hfz26_8 := blk_frozen BK139.out 8) | ((with_reducible refine gate_callee (f := 97) rfl ?_); refine goesL_ (some 5) rfl rfl Try.func97 (by kernel_rfl) rfl #[.int .i64 a0_0, .int .i64 1, .int .i64 9] rfl (by (try simp only [List.map_toArray, List.map_cons, List.map_nil]); first | done | rfl | (simp only [List.length_drop, List.length_take]; rfl)) ?_; (with_reducible refine (damperref06_in.calls a0_0 1 9 true _ A2.out).mono ?_); rintro e w' ⟨rfl, ⟨nd, rfl⟩⟩; refine ⟨_, rfl, ?_⟩) | (go_at_call 97; (with_reducible refine (damperref06_in.calls a0_1 0 255 false _ A4.out).mono ?_); rintro e w' ⟨rfl, ⟨nd, rfl⟩⟩))
      go_ret
      exact ⟨by first | rfl | (simp [errW_none, errW_some] <;> rfl) | (simp [*, errW_none, errW_some] <;> rfl), by repeat (first | (with_reducible first | exact HB.out | apply below_alloc | apply pw_below_drewN | apply below_drew1 | refine below_set ?_ GE139.out) | exact HB.out)⟩
  · replace c3 := Bool.eq_false_iff.mpr c3
    subst c3
    have H1 : (some false) = some r := by rw [if_neg (show ¬ (false = true) by decide)] at H; exact H
    clear H
    have H := H1
    clear H1
    obtain rfl := Option.some.inj H
    go_enter Try.func33, Try.ntmps33
    go_wp2_with (first | ((with_reducible refine gate_dst (N := 1) rfl ?_); refine box_event ?hg (N := 1) ?hd (cs := #[.int .i64 a0_0, .int .i64 a0_1, .int .i64 a0_2, .int .i64 a0_3, .int .i64 a0_4, .int .i64 a0_5, .int .i64 a0_6, .int .i64 a0_7, .int .i64 a0_8]) (t := 29) ?hr ?_; (case hd => rfl); (case hg => rfl); (case hr => first | (go_simp; done) | (go_simp; rfl)); intro gb139 hg w27 hbox hb; have n0_ := Aside0.mk (below_step (by repeat (first | (with_reducible first | exact HB.out | apply below_alloc | apply pw_below_drewN | apply below_drew1) | exact HB.out)) hb); have n1_ := Aside0.mk (hbox); have n2_ := Aside0.mk ((by rw [hg]; exact (below_size (by repeat (first | (with_reducible first | exact HB.out | apply below_alloc | apply pw_below_drewN | apply below_drew1) | exact HB.out))) : w.heap.size ≤ gb139)); have n3_ := Aside0.mk ((by rw [hg]; exact (below_size (by repeat (first | (with_reducible first | exact HB.out | apply below_alloc | apply pw_below_drewN | apply below_drew1) | exact HB.out))) : w.heap.size ≤ gb139)); clear HB; have HB := n0_; have BK139 := n1_; have GW139 := n2_; have GE139 := n3_; clear n0_ n1_ n2_ n3_; clear hb hbox hg; have hcz28_0 : w27.cell? ⟨gb139, 0, none⟩ = some (.int .i64 a0_0) := (blk_cell BK139.out 0).trans rfl; have hcz28_1 : w27.cell? ⟨gb139, 1, none⟩ = some (.int .i64 a0_1) := (blk_cell BK139.out 1).trans rfl; have hcz28_2 : w27.cell? ⟨gb139, 2, none⟩ = some (.int .i64 a0_2) := (blk_cell BK139.out 2).trans rfl; have hcz28_3 : w27.cell? ⟨gb139, 3, none⟩ = some (.int .i64 a0_3) := (blk_cell BK139.out 3).trans rfl; have hcz28_4 : w27.cell? ⟨gb139, 4, none⟩ = some (.int .i64 a0_4) := (blk_cell BK139.out 4).trans rfl; have hcz28_5 : w27.cell? ⟨gb139, 5, none⟩ = some (.int .i64 a0_5) := (blk_cell BK139.out 5).trans rfl; have hcz28_6 : w27.cell? ⟨gb139, 6, none⟩ = some (.int .i64 a0_6) := (blk_cell BK139.out 6).trans rfl; have hcz28_7 : w27.cell? ⟨gb139, 7, none⟩ = some (.int .i64 a0_7) := (blk_cell BK139.out 7).trans rfl; have hcz28_8 : w27.cell? ⟨gb139, 8, none⟩ = some (.int .i64 a0_8) := (blk_cell BK139.out 8).trans rfl; have hfz28_0 := blk_frozen BK139.out 0; have hfz28_1 := blk_frozen BK139.out 1; have hfz28_2 := blk_frozen BK139.out 2; have hfz28_3 := blk_frozen BK139.out 3; have hfz28_4 := blk_frozen BK139.out 4; have hfz28_5 := blk_frozen BK139.out 5; have hfz28_6 := blk_frozen BK139.out 6; have hfz28_7 := blk_frozen BK139.out 7; have hfz28_8 := blk_frozen BK139.out 8) | ((with_reducible refine gate_callee (f := 97) rfl ?_); refine goesL_ (some 5) rfl rfl Try.func97 (by kernel_rfl) rfl #[.int .i64 a0_0, .int .i64 1, .int .i64 9] rfl (by (try simp only [List.map_toArray, List.map_cons, List.map_nil]); first | done | rfl | (simp only [List.length_drop, List.length_take]; rfl)) ?_; (with_reducible refine (damperref06_in.calls a0_0 1 9 false _ A2.out).mono ?_); rintro e w' ⟨rfl, ⟨nd, rfl⟩⟩; refine ⟨_, rfl, ?_⟩))
    go_ret
    exact ⟨by first | rfl | (simp [errW_none, errW_some] <;> rfl) | (simp [*, errW_none, errW_some] <;> rfl), by repeat (first | (with_reducible first | exact HB.out | apply below_alloc | apply pw_below_drewN | apply below_drew1 | refine below_set ?_ GE139.out) | exact HB.out)⟩

end Go.Proofs.Ytalpemoodollpaa.P
/- The document's right messages are the program's. -/
namespace Go.Proofs.Ytalpemoodollpaa.P
open Go.RowKit Go.Proofs.YtalpemoodollpaaW.PrintWords Go.Proofs.YtalpemoodollpaaW.PrintLast Go.Proofs.YtalpemoodollpaaW.PrintMore
theorem refIn06_ (a lo hi : Int) : damperref06_in.f a lo hi = some (within_ lo hi a) := by
  unfold damperref06_in.f within_
  by_cases h : lo ≤ a
  · rw [if_pos (by omega)]; simp [h]
  · rw [if_neg (by omega)]; simp [h]
theorem refMsgRight_ (m : S29) : damperref06_Right.f m.f0 m.f1 m.f2 m.f3 m.f4 m.f5 m.f6 m.f7 m.f8 = some (msgRight m) := by
  unfold damperref06_Right.f msgRight
  simp only [refIn06_, Option.bind_some]
  cases within_ 1 9 m.f0 <;> cases within_ 0 255 m.f1 <;> cases within_ 0 255 m.f8 <;> cases within_ 0 4611686018427387904 m.f2 <;> cases within_ 0 4611686018427387904 m.f3 <;> cases within_ (-1) 4611686018427387904 m.f4 <;> simp
theorem refMRight_calls (m : S29) (w : World) : Calls Try.prog 33 #[.agg #[.int .i64 m.f0, .int .i64 m.f1, .int .i64 m.f2, .int .i64 m.f3, .int .i64 m.f4, .int .i64 m.f5, .int .i64 m.f6, .int .i64 m.f7, .int .i64 m.f8]] w fun e w' => e = .returned (.bool (msgRight m)) ∧ Below w.heap.size w w' :=
  damperref06_Right.calls _ _ _ _ _ _ _ _ _ _ w (refMsgRight_ m)
end Go.Proofs.Ytalpemoodollpaa.P
/- The contract of damperref06.Decode. -/
namespace Go.Proofs.Ytalpemoodollpaa.P
open Go.RowKit Go.Proofs.YtalpemoodollpaaW.PrintWords Go.Proofs.YtalpemoodollpaaW.PrintLast Go.Proofs.YtalpemoodollpaaW.PrintMore
set_option linter.unusedVariables false
set_option linter.unusedSimpArgs false
theorem FS.res {w W : World} {ba : Nat} {f : Nat → Value} (h : FS w W ba f) (v0 v1 v2 v3 v4 v5 v6 v7 v8 : Int) : Box9 (((((((((W.setCell ⟨w.heap.size, 0, none⟩ (.int .i64 v0)).setCell ⟨w.heap.size, 1, none⟩ (.int .i64 v1)).setCell ⟨w.heap.size, 2, none⟩ (.int .i64 v2)).setCell ⟨w.heap.size, 3, none⟩ (.int .i64 v3)).setCell ⟨w.heap.size, 4, none⟩ (.int .i64 v4)).setCell ⟨w.heap.size, 5, none⟩ (.int .i64 v5)).setCell ⟨w.heap.size, 6, none⟩ (.int .i64 v6)).setCell ⟨w.heap.size, 7, none⟩ (.int .i64 v7)).setCell ⟨w.heap.size, 8, none⟩ (.int .i64 v8)) 29 w.heap.size v0 v1 v2 v3 v4 v5 v6 v7 v8 ∧ Below w.heap.size w (((((((((W.setCell ⟨w.heap.size, 0, none⟩ (.int .i64 v0)).setCell ⟨w.heap.size, 1, none⟩ (.int .i64 v1)).setCell ⟨w.heap.size, 2, none⟩ (.int .i64 v2)).setCell ⟨w.heap.size, 3, none⟩ (.int .i64 v3)).setCell ⟨w.heap.size, 4, none⟩ (.int .i64 v4)).setCell ⟨w.heap.size, 5, none⟩ (.int .i64 v5)).setCell ⟨w.heap.size, 6, none⟩ (.int .i64 v6)).setCell ⟨w.heap.size, 7, none⟩ (.int .i64 v7)).setCell ⟨w.heap.size, 8, none⟩ (.int .i64 v8)) ∧ (((((((((W.setCell ⟨w.heap.size, 0, none⟩ (.int .i64 v0)).setCell ⟨w.heap.size, 1, none⟩ (.int .i64 v1)).setCell ⟨w.heap.size, 2, none⟩ (.int .i64 v2)).setCell ⟨w.heap.size, 3, none⟩ (.int .i64 v3)).setCell ⟨w.heap.size, 4, none⟩ (.int .i64 v4)).setCell ⟨w.heap.size, 5, none⟩ (.int .i64 v5)).setCell ⟨w.heap.size, 6, none⟩ (.int .i64 v6)).setCell ⟨w.heap.size, 7, none⟩ (.int .i64 v7)).setCell ⟨w.heap.size, 8, none⟩ (.int .i64 v8)).heap[ba]? = some (.cells (arr45 f) 153 (0, 0)) := ⟨(blk_set (blk_set (blk_set (blk_set (blk_set (blk_set (blk_set (blk_set (blk_set h.zx 0 (.int .i64 v0)) 1 (.int .i64 v1)) 2 (.int .i64 v2)) 3 (.int .i64 v3)) 4 (.int .i64 v4)) 5 (.int .i64 v5)) 6 (.int .i64 v6)) 7 (.int .i64 v7)) 8 (.int .i64 v8)).trans (by simp), (((((((((h.bel.setCell (p := ⟨w.heap.size, 0, none⟩) (Nat.le_refl _) (.int .i64 v0)).setCell (p := ⟨w.heap.size, 1, none⟩) (Nat.le_refl _) (.int .i64 v1)).setCell (p := ⟨w.heap.size, 2, none⟩) (Nat.le_refl _) (.int .i64 v2)).setCell (p := ⟨w.heap.size, 3, none⟩) (Nat.le_refl _) (.int .i64 v3)).setCell (p := ⟨w.heap.size, 4, none⟩) (Nat.le_refl _) (.int .i64 v4)).setCell (p := ⟨w.heap.size, 5, none⟩) (Nat.le_refl _) (.int .i64 v5)).setCell (p := ⟨w.heap.size, 6, none⟩) (Nat.le_refl _) (.int .i64 v6)).setCell (p := ⟨w.heap.size, 7, none⟩) (Nat.le_refl _) (.int .i64 v7)).setCell (p := ⟨w.heap.size, 8, none⟩) (Nat.le_refl _) (.int .i64 v8)), (blk_far (blk_far (blk_far (blk_far (blk_far (blk_far (blk_far (blk_far (blk_far h.arr (p := ⟨w.heap.size, 0, none⟩) (by have := h.hba; show ba ≠ w.heap.size; omega) (.int .i64 v0)) (p := ⟨w.heap.size, 1, none⟩) (by have := h.hba; show ba ≠ w.heap.size; omega) (.int .i64 v1)) (p := ⟨w.heap.size, 2, none⟩) (by have := h.hba; show ba ≠ w.heap.size; omega) (.int .i64 v2)) (p := ⟨w.heap.size, 3, none⟩) (by have := h.hba; show ba ≠ w.heap.size; omega) (.int .i64 v3)) (p := ⟨w.heap.size, 4, none⟩) (by have := h.hba; show ba ≠ w.heap.size; omega) (.int .i64 v4)) (p := ⟨w.heap.size, 5, none⟩) (by have := h.hba; show ba ≠ w.heap.size; omega) (.int .i64 v5)) (p := ⟨w.heap.size, 6, none⟩) (by have := h.hba; show ba ≠ w.heap.size; omega) (.int .i64 v6)) (p := ⟨w.heap.size, 7, none⟩) (by have := h.hba; show ba ≠ w.heap.size; omega) (.int .i64 v7)) (p := ⟨w.heap.size, 8, none⟩) (by have := h.hba; show ba ≠ w.heap.size; omega) (.int .i64 v8))⟩
theorem FS.zfrozen {w W : World} {ba : Nat} {f : Nat → Value} (h : FS w W ba f) : W.frozen? ⟨w.heap.size, 0, none⟩ = false ∧ W.frozen? ⟨w.heap.size, 1, none⟩ = false ∧ W.frozen? ⟨w.heap.size, 2, none⟩ = false ∧ W.frozen? ⟨w.heap.size, 3, none⟩ = false ∧ W.frozen? ⟨w.heap.size, 4, none⟩ = false ∧ W.frozen? ⟨w.heap.size, 5, none⟩ = false ∧ W.frozen? ⟨w.heap.size, 6, none⟩ = false ∧ W.frozen? ⟨w.heap.size, 7, none⟩ = false ∧ W.frozen? ⟨w.heap.size, 8, none⟩ = false := ⟨blk_frozen h.zx 0, blk_frozen h.zx 1, blk_frozen h.zx 2, blk_frozen h.zx 3, blk_frozen h.zx 4, blk_frozen h.zx 5, blk_frozen h.zx 6, blk_frozen h.zx 7, blk_frozen h.zx 8⟩
theorem arr_cell {W : World} {ba : Nat} {f : Nat → Value} (h : W.heap[ba]? = some (.cells (arr45 f) 153 (0, 0))) (j : Nat) (hj : j < 45) : W.cell? ⟨ba, j, none⟩ = some (f j) := by
  rw [blk_cell h j]
  simp [arr45, hj]
theorem box_drew {W : World} {t b : Nat} {v0 v1 v2 v3 v4 v5 v6 v7 v8 : Int} (h : Box9 W t b v0 v1 v2 v3 v4 v5 v6 v7 v8) : Box9 W.drew t b v0 v1 v2 v3 v4 v5 v6 v7 v8 := h
set_option maxRecDepth 100000 in
set_option maxHeartbeats 4000000 in
theorem refMDec_calls (A0 : Option Addr) (c0 : Nat) (b : List Int) (w : World) (hr0 : Kd.C (Kd.int .u8) w A0 b.length b) (hc0 : b.length ≤ c0) (hl : b.length ≤ 140737488355328) (hb : Byt b) :
    Calls Try.prog 81 #[.slice A0 b.length c0] w fun e w' => e = .returned (.tuple #[.agg #[.int .i64 (msgDec b).1.f0, .int .i64 (msgDec b).1.f1, .int .i64 (msgDec b).1.f2, .int .i64 (msgDec b).1.f3, .int .i64 (msgDec b).1.f4, .int .i64 (msgDec b).1.f5, .int .i64 (msgDec b).1.f6, .int .i64 (msgDec b).1.f7, .int .i64 (msgDec b).1.f8], .int .i64 (msgDec b).2]) ∧ Below w.heap.size w w' := by
  have hu29 := Try.underlying29
  have HR0 := Aside0.mk hr0
  have HY0 := Aside0.mk hb
  have HC0 := Aside0.mk hc0
  have HL0 := Aside0.mk hl
  clear hr0 hb hc0 hl
  generalize hG : msgDec b = G
  unfold msgDec msgMid msgTail at hG
  rw [mfin_eq] at hG
  have HG := Aside0.mk hG
  clear hG
  have F0 : Aside0 (FS w ((w.alloc (.cells #[.int .i64 0, .int .i64 0, .int .i64 0, .int .i64 0, .int .i64 0, .int .i64 0, .int .i64 0, .int .i64 0, .int .i64 0] 29)).alloc (.cells #[.int .u64 0, .int .i64 0, .slice none 0 0, .int .i64 0, .int .i64 0, .int .u64 0, .int .i64 0, .slice none 0 0, .int .i64 0, .int .i64 0, .int .u64 0, .int .i64 0, .slice none 0 0, .int .i64 0, .int .i64 0, .int .u64 0, .int .i64 0, .slice none 0 0, .int .i64 0, .int .i64 0, .int .u64 0, .int .i64 0, .slice none 0 0, .int .i64 0, .int .i64 0, .int .u64 0, .int .i64 0, .slice none 0 0, .int .i64 0, .int .i64 0, .int .u64 0, .int .i64 0, .slice none 0 0, .int .i64 0, .int .i64 0, .int .u64 0, .int .i64 0, .slice none 0 0, .int .i64 0, .int .i64 0, .int .u64 0, .int .i64 0, .slice none 0 0, .int .i64 0, .int .i64 0] 153)) (w.heap.size + 1) zero5) := ⟨by
    refine ⟨?_, blk_alloc (blk_new w _) _, below_alloc (below_alloc (Below.refl _ _) _) _, by omega⟩
    have h := blk_new (w.alloc (.cells #[.int .i64 0, .int .i64 0, .int .i64 0, .int .i64 0, .int .i64 0, .int .i64 0, .int .i64 0, .int .i64 0, .int .i64 0] 29)) (.cells #[.int .u64 0, .int .i64 0, .slice none 0 0, .int .i64 0, .int .i64 0, .int .u64 0, .int .i64 0, .slice none 0 0, .int .i64 0, .int .i64 0, .int .u64 0, .int .i64 0, .slice none 0 0, .int .i64 0, .int .i64 0, .int .u64 0, .int .i64 0, .slice none 0 0, .int .i64 0, .int .i64 0, .int .u64 0, .int .i64 0, .slice none 0 0, .int .i64 0, .int .i64 0, .int .u64 0, .int .i64 0, .slice none 0 0, .int .i64 0, .int .i64 0, .int .u64 0, .int .i64 0, .slice none 0 0, .int .i64 0, .int .i64 0, .int .u64 0, .int .i64 0, .slice none 0 0, .int .i64 0, .int .i64 0, .int .u64 0, .int .i64 0, .slice none 0 0, .int .i64 0, .int .i64 0] 153)
    rw [World.size_alloc] at h
    exact h.trans (by rfl)⟩
  go_enter Try.func81, Try.ntmps81
  go_wp2
  refine wp_loop_rounds 10 ?_
  rw [rounds_succ]
  go_wp2_with fail
  generalize ((w.alloc (.cells #[.int .i64 0, .int .i64 0, .int .i64 0, .int .i64 0, .int .i64 0, .int .i64 0, .int .i64 0, .int .i64 0, .int .i64 0] 29)).alloc (.cells #[.int .u64 0, .int .i64 0, .slice none 0 0, .int .i64 0, .int .i64 0, .int .u64 0, .int .i64 0, .slice none 0 0, .int .i64 0, .int .i64 0, .int .u64 0, .int .i64 0, .slice none 0 0, .int .i64 0, .int .i64 0, .int .u64 0, .int .i64 0, .slice none 0 0, .int .i64 0, .int .i64 0, .int .u64 0, .int .i64 0, .slice none 0 0, .int .i64 0, .int .i64 0, .int .u64 0, .int .i64 0, .slice none 0 0, .int .i64 0, .int .i64 0, .int .u64 0, .int .i64 0, .slice none 0 0, .int .i64 0, .int .i64 0, .int .u64 0, .int .i64 0, .slice none 0 0, .int .i64 0, .int .i64 0, .int .u64 0, .int .i64 0, .slice none 0 0, .int .i64 0, .int .i64 0] 153)) = v0 at *
  generalize hba : w.heap.size + 1 = ba at *
  have HBA := Aside0.mk (show w.heap.size ≠ ba by omega)
  clear hba
  generalize zero5 = f0 at *
  generalize b = l0 at *
  have CX := Aside0.mk (RD.uint A0 c0 l0 1 v0 (Kd.C_below HR0.out F0.out.bel) HC0.out HY0.out)
  unfold RD at CX
  have RG := rd_uint l0 HY0.out
  have RN0 := Aside0.mk (rUint1_range (l0, 0) HY0.out)
  generalize rUint (l0, 0) 1 = P at *
  generalize rdUint l0 1 = T at *
  obtain ⟨n0, pl, pf⟩ := P
  obtain ⟨tn, sg, raw, z, q⟩ := T
  try dsimp only at *
  obtain ⟨hv, hq, hz0, hz1, hd⟩ := RG
  subst hq
  subst hv
  obtain ⟨z, rfl⟩ := Int.eq_ofNat_of_zero_le hz0
  have HZ := Aside0.mk (show z ≤ l0.length by omega)
  clear hz0 hz1
  rw [Int.toNat_natCast] at hd
  have HD := Aside0.mk hd
  clear hd
  refine CX.out.mono ?_
  rintro e u0 ⟨B, m, rfl, hqB, hBA, hb1⟩
  have G := Aside0.mk (F0.out.below hb1)
  clear hqB hBA hb1 CX
  obtain ⟨f1, hF, e0, e1, e3, e4, ee⟩ := G.out.store5 0 n0 sg (z : Int) pf (.slice B raw.length m)
  have F1 : Aside0 (FS w (((((u0.setCell ⟨ba, 0, none⟩ (.int .u64 n0)).setCell ⟨ba, 1, none⟩ (.int .i64 sg)).setCell ⟨ba, 2, none⟩ (.slice B raw.length m)).setCell ⟨ba, 3, none⟩ (.int .i64 (z : Int))).setCell ⟨ba, 4, none⟩ (.int .i64 pf)) ba f1) := ⟨hF⟩
  have E0 : Aside0 (f1 0 = .int .u64 n0) := ⟨e0⟩
  have EE0 := Aside0.mk ee
  have d3 := F1.out.cell 3 (by decide)
  have d4 := F1.out.cell 4 (by decide)
  rw [show f1 3 = .int .i64 (z : Int) from e3] at d3
  rw [show f1 4 = .int .i64 pf from e4] at d4
  have E4 : Aside0 (f1 4 = .int .i64 pf) := ⟨e4⟩
  clear hF e0 e1 e3 e4 ee
  have c0_ := G.out.cell 0 (by decide)
  have z0_ := G.out.frozen 0
  have c1_ := G.out.cell 1 (by decide)
  have z1_ := G.out.frozen 1
  have c2_ := G.out.cell 2 (by decide)
  have z2_ := G.out.frozen 2
  have c3_ := G.out.cell 3 (by decide)
  have z3_ := G.out.frozen 3
  have c4_ := G.out.cell 4 (by decide)
  have z4_ := G.out.frozen 4
  by_cases hf : pf = 0
  rotate_left
  · have hff : (pf != 0) = true := by simpa using hf
    try simp only [rUint_ff _ _ hf, rNum_ff _ _ hf] at HG
    unfold refMFin at HG
    rw [if_pos (show pf ≠ 0 from hf)] at HG
    clear hf
    obtain ⟨hres, hbel, harr⟩ := F1.out.res 0 0 0 0 0 0 0 0 0
    have HRES := Aside0.mk (box_drew hres)
    have HBEL := Aside0.mk hbel.drew
    have gx := arr_cell harr 4 (by decide)
    rw [E4.out] at gx
    have hzz := HBA.out
    obtain ⟨r0, r1, r2, r3, r4, r5, r6, r7, r8⟩ := F1.out.zx.cells
    obtain ⟨y0, y1, y2, y3, y4, y5, y6, y7, y8⟩ := F1.out.zfrozen
    clear hres hbel harr
    obtain rfl := HG.out
    go_wp2
    go_region
    go_wp2
    exact bodyPost_ret (results_ct (fn := Try.f81) (p := 2) (u := 3) (ty := 29) rfl _ _ w.heap.size 29 #[.int .i64 0, .int .i64 0, .int .i64 0, .int .i64 0, .int .i64 0, .int .i64 0, .int .i64 0, .int .i64 0, .int .i64 0] (0, 0) _ rfl HRES.out Try.underlying29 rfl (by kernel_rfl)) rfl ⟨rfl, HBEL.out⟩
  subst hf
  obtain ⟨A1, hcut, hA', hR'⟩ := cut_ A0 l0.length c0 z HZ.out
  rw [← List.length_drop] at hcut hR'
  have HR1 := Aside0.mk (hR' w l0 HC0.out HR0.out)
  have HY1 := Aside0.mk (HY0.out.drop z)
  have HC1 := Aside0.mk (show (l0.drop z).length ≤ c0 - z by have := HC0.out; rw [List.length_drop]; omega)
  have HL1 := Aside0.mk (show (l0.drop z).length ≤ 140737488355328 by have := HL0.out; rw [List.length_drop]; omega)
  rw [HD.out rfl] at HG
  clear hA' hR' HZ HD
  generalize l0.drop z = l1 at *
  generalize c0 - z = c1 at *
  go_wp2
  rw [rounds_succ]
  go_wp2_with fail
  generalize (((((u0.setCell ⟨ba, 0, none⟩ (.int .u64 n0)).setCell ⟨ba, 1, none⟩ (.int .i64 sg)).setCell ⟨ba, 2, none⟩ (.slice B raw.length m)).setCell ⟨ba, 3, none⟩ (.int .i64 (z : Int))).setCell ⟨ba, 4, none⟩ (.int .i64 0)) = v1 at *
  clear d3 d4 c0_ c1_ c2_ c3_ c4_ z0_ z1_ z2_ z3_ z4_ G E4 HR0 HC0 HY0 HL0
  have CX := Aside0.mk (RD.uint A1 c1 l1 1 v1 (Kd.C_below HR1.out F1.out.bel) HC1.out HY1.out)
  unfold RD at CX
  have RG := rd_uint l1 HY1.out
  have RN1 := Aside0.mk (rUint1_range (l1, 0) HY1.out)
  generalize rUint (l1, 0) 1 = P at *
  generalize rdUint l1 1 = T at *
  obtain ⟨n1, pl, pf⟩ := P
  obtain ⟨tn, sg, raw, z, q⟩ := T
  try dsimp only at *
  obtain ⟨hv, hq, hz0, hz1, hd⟩ := RG
  subst hq
  subst hv
  obtain ⟨z, rfl⟩ := Int.eq_ofNat_of_zero_le hz0
  have HZ := Aside0.mk (show z ≤ l1.length by omega)
  clear hz0 hz1
  rw [Int.toNat_natCast] at hd
  have HD := Aside0.mk hd
  clear hd
  refine CX.out.mono ?_
  rintro e u1 ⟨B, m, rfl, hqB, hBA, hb1⟩
  have G := Aside0.mk (F1.out.below hb1)
  clear hqB hBA hb1 CX
  obtain ⟨f2, hF, e0, e1, e3, e4, ee⟩ := G.out.store5 5 n1 sg (z : Int) pf (.slice B raw.length m)
  have F2 : Aside0 (FS w (((((u1.setCell ⟨ba, 5, none⟩ (.int .u64 n1)).setCell ⟨ba, 6, none⟩ (.int .i64 sg)).setCell ⟨ba, 7, none⟩ (.slice B raw.length m)).setCell ⟨ba, 8, none⟩ (.int .i64 (z : Int))).setCell ⟨ba, 9, none⟩ (.int .i64 pf)) ba f2) := ⟨hF⟩
  have E1 : Aside0 (f2 5 = .int .u64 n1) := ⟨e0⟩
  have EE1 := Aside0.mk ee
  have d3 := F2.out.cell 8 (by decide)
  have d4 := F2.out.cell 9 (by decide)
  rw [show f2 8 = .int .i64 (z : Int) from e3] at d3
  rw [show f2 9 = .int .i64 pf from e4] at d4
  have E4 : Aside0 (f2 9 = .int .i64 pf) := ⟨e4⟩
  clear hF e0 e1 e3 e4 ee
  have c0_ := G.out.cell 5 (by decide)
  have z0_ := G.out.frozen 5
  have c1_ := G.out.cell 6 (by decide)
  have z1_ := G.out.frozen 6
  have c2_ := G.out.cell 7 (by decide)
  have z2_ := G.out.frozen 7
  have c3_ := G.out.cell 8 (by decide)
  have z3_ := G.out.frozen 8
  have c4_ := G.out.cell 9 (by decide)
  have z4_ := G.out.frozen 9
  by_cases hf : pf = 0
  rotate_left
  · have hff : (pf != 0) = true := by simpa using hf
    try simp only [rUint_ff _ _ hf, rNum_ff _ _ hf] at HG
    unfold refMFin at HG
    rw [if_pos (show pf ≠ 0 from hf)] at HG
    clear hf
    obtain ⟨hres, hbel, harr⟩ := F2.out.res 0 0 0 0 0 0 0 0 0
    have HRES := Aside0.mk (box_drew hres)
    have HBEL := Aside0.mk hbel.drew
    have gx := arr_cell harr 9 (by decide)
    rw [E4.out] at gx
    have hzz := HBA.out
    obtain ⟨r0, r1, r2, r3, r4, r5, r6, r7, r8⟩ := F2.out.zx.cells
    obtain ⟨y0, y1, y2, y3, y4, y5, y6, y7, y8⟩ := F2.out.zfrozen
    clear hres hbel harr
    obtain rfl := HG.out
    go_wp2
    go_region
    go_wp2
    exact bodyPost_ret (results_ct (fn := Try.f81) (p := 2) (u := 3) (ty := 29) rfl _ _ w.heap.size 29 #[.int .i64 0, .int .i64 0, .int .i64 0, .int .i64 0, .int .i64 0, .int .i64 0, .int .i64 0, .int .i64 0, .int .i64 0] (0, 0) _ rfl HRES.out Try.underlying29 rfl (by kernel_rfl)) rfl ⟨rfl, HBEL.out⟩
  subst hf
  obtain ⟨A2, hcut, hA', hR'⟩ := cut_ A1 l1.length c1 z HZ.out
  rw [← List.length_drop] at hcut hR'
  have HR2 := Aside0.mk (hR' w l1 HC1.out HR1.out)
  have HY2 := Aside0.mk (HY1.out.drop z)
  have HC2 := Aside0.mk (show (l1.drop z).length ≤ c1 - z by have := HC1.out; rw [List.length_drop]; omega)
  have HL2 := Aside0.mk (show (l1.drop z).length ≤ 140737488355328 by have := HL1.out; rw [List.length_drop]; omega)
  rw [HD.out rfl] at HG
  clear hA' hR' HZ HD
  generalize l1.drop z = l2 at *
  generalize c1 - z = c2 at *
  go_wp2
  rw [rounds_succ]
  go_wp2_with fail
  generalize (((((u1.setCell ⟨ba, 5, none⟩ (.int .u64 n1)).setCell ⟨ba, 6, none⟩ (.int .i64 sg)).setCell ⟨ba, 7, none⟩ (.slice B raw.length m)).setCell ⟨ba, 8, none⟩ (.int .i64 (z : Int))).setCell ⟨ba, 9, none⟩ (.int .i64 0)) = v2 at *
  clear d3 d4 c0_ c1_ c2_ c3_ c4_ z0_ z1_ z2_ z3_ z4_ G E4 HR1 HC1 HY1 HL1
  have CX := Aside0.mk (RD.uint A2 c2 l2 1 v2 (Kd.C_below HR2.out F2.out.bel) HC2.out HY2.out)
  unfold RD at CX
  have RG := rd_uint l2 HY2.out
  have RN2 := Aside0.mk (rUint1_range (l2, 0) HY2.out)
  generalize rUint (l2, 0) 1 = P at *
  generalize rdUint l2 1 = T at *
  obtain ⟨n2, pl, pf⟩ := P
  obtain ⟨tn, sg, raw, z, q⟩ := T
  try dsimp only at *
  obtain ⟨hv, hq, hz0, hz1, hd⟩ := RG
  subst hq
  subst hv
  obtain ⟨z, rfl⟩ := Int.eq_ofNat_of_zero_le hz0
  have HZ := Aside0.mk (show z ≤ l2.length by omega)
  clear hz0 hz1
  rw [Int.toNat_natCast] at hd
  have HD := Aside0.mk hd
  clear hd
  refine CX.out.mono ?_
  rintro e u2 ⟨B, m, rfl, hqB, hBA, hb1⟩
  have G := Aside0.mk (F2.out.below hb1)
  clear hqB hBA hb1 CX
  obtain ⟨f3, hF, e0, e1, e3, e4, ee⟩ := G.out.store5 10 n2 sg (z : Int) pf (.slice B raw.length m)
  have F3 : Aside0 (FS w (((((u2.setCell ⟨ba, 10, none⟩ (.int .u64 n2)).setCell ⟨ba, 11, none⟩ (.int .i64 sg)).setCell ⟨ba, 12, none⟩ (.slice B raw.length m)).setCell ⟨ba, 13, none⟩ (.int .i64 (z : Int))).setCell ⟨ba, 14, none⟩ (.int .i64 pf)) ba f3) := ⟨hF⟩
  have E2 : Aside0 (f3 10 = .int .u64 n2) := ⟨e0⟩
  have EE2 := Aside0.mk ee
  have d3 := F3.out.cell 13 (by decide)
  have d4 := F3.out.cell 14 (by decide)
  rw [show f3 13 = .int .i64 (z : Int) from e3] at d3
  rw [show f3 14 = .int .i64 pf from e4] at d4
  have E4 : Aside0 (f3 14 = .int .i64 pf) := ⟨e4⟩
  clear hF e0 e1 e3 e4 ee
  have c0_ := G.out.cell 10 (by decide)
  have z0_ := G.out.frozen 10
  have c1_ := G.out.cell 11 (by decide)
  have z1_ := G.out.frozen 11
  have c2_ := G.out.cell 12 (by decide)
  have z2_ := G.out.frozen 12
  have c3_ := G.out.cell 13 (by decide)
  have z3_ := G.out.frozen 13
  have c4_ := G.out.cell 14 (by decide)
  have z4_ := G.out.frozen 14
  by_cases hf : pf = 0
  rotate_left
  · have hff : (pf != 0) = true := by simpa using hf
    try simp only [rUint_ff _ _ hf, rNum_ff _ _ hf] at HG
    unfold refMFin at HG
    rw [if_pos (show pf ≠ 0 from hf)] at HG
    clear hf
    obtain ⟨hres, hbel, harr⟩ := F3.out.res 0 0 0 0 0 0 0 0 0
    have HRES := Aside0.mk (box_drew hres)
    have HBEL := Aside0.mk hbel.drew
    have gx := arr_cell harr 14 (by decide)
    rw [E4.out] at gx
    have hzz := HBA.out
    obtain ⟨r0, r1, r2, r3, r4, r5, r6, r7, r8⟩ := F3.out.zx.cells
    obtain ⟨y0, y1, y2, y3, y4, y5, y6, y7, y8⟩ := F3.out.zfrozen
    clear hres hbel harr
    obtain rfl := HG.out
    go_wp2
    go_region
    go_wp2
    exact bodyPost_ret (results_ct (fn := Try.f81) (p := 2) (u := 3) (ty := 29) rfl _ _ w.heap.size 29 #[.int .i64 0, .int .i64 0, .int .i64 0, .int .i64 0, .int .i64 0, .int .i64 0, .int .i64 0, .int .i64 0, .int .i64 0] (0, 0) _ rfl HRES.out Try.underlying29 rfl (by kernel_rfl)) rfl ⟨rfl, HBEL.out⟩
  subst hf
  obtain ⟨A3, hcut, hA', hR'⟩ := cut_ A2 l2.length c2 z HZ.out
  rw [← List.length_drop] at hcut hR'
  have HR3 := Aside0.mk (hR' w l2 HC2.out HR2.out)
  have HY3 := Aside0.mk (HY2.out.drop z)
  have HC3 := Aside0.mk (show (l2.drop z).length ≤ c2 - z by have := HC2.out; rw [List.length_drop]; omega)
  have HL3 := Aside0.mk (show (l2.drop z).length ≤ 140737488355328 by have := HL2.out; rw [List.length_drop]; omega)
  rw [HD.out rfl] at HG
  clear hA' hR' HZ HD
  generalize l2.drop z = l3 at *
  generalize c2 - z = c3 at *
  go_wp2
  rw [rounds_succ]
  go_wp2_with fail
  generalize (((((u2.setCell ⟨ba, 10, none⟩ (.int .u64 n2)).setCell ⟨ba, 11, none⟩ (.int .i64 sg)).setCell ⟨ba, 12, none⟩ (.slice B raw.length m)).setCell ⟨ba, 13, none⟩ (.int .i64 (z : Int))).setCell ⟨ba, 14, none⟩ (.int .i64 0)) = v3 at *
  clear d3 d4 c0_ c1_ c2_ c3_ c4_ z0_ z1_ z2_ z3_ z4_ G E4 HR2 HC2 HY2 HL2
  have CX := Aside0.mk (RD.num A3 c3 l3 v3 (Kd.C_below HR3.out F3.out.bel) HC3.out HY3.out HL3.out)
  unfold RD at CX
  have RG := rd_num l3 HY3.out
  have RN3 := Aside0.mk (rNum_range (l3, 0) HY3.out)
  generalize rNum (l3, 0) = P at *
  generalize fin3 l3 (numGo 10 0 0 l3) = T at *
  obtain ⟨n3, pl, pf⟩ := P
  obtain ⟨tn, sg, raw, z, q⟩ := T
  try dsimp only at *
  obtain ⟨hv, hq, hz0, hz1, hd⟩ := RG
  subst hq
  subst hv
  obtain ⟨z, rfl⟩ := Int.eq_ofNat_of_zero_le hz0
  have HZ := Aside0.mk (show z ≤ l3.length by omega)
  clear hz0 hz1
  rw [Int.toNat_natCast] at hd
  have HD := Aside0.mk hd
  clear hd
  refine CX.out.mono ?_
  rintro e u3 ⟨B, m, rfl, hqB, hBA, hb1⟩
  have G := Aside0.mk (F3.out.below hb1)
  clear hqB hBA hb1 CX
  obtain ⟨f4, hF, e0, e1, e3, e4, ee⟩ := G.out.store5 15 n3 sg (z : Int) pf (.slice B raw.length m)
  have F4 : Aside0 (FS w (((((u3.setCell ⟨ba, 15, none⟩ (.int .u64 n3)).setCell ⟨ba, 16, none⟩ (.int .i64 sg)).setCell ⟨ba, 17, none⟩ (.slice B raw.length m)).setCell ⟨ba, 18, none⟩ (.int .i64 (z : Int))).setCell ⟨ba, 19, none⟩ (.int .i64 pf)) ba f4) := ⟨hF⟩
  have E3 : Aside0 (f4 15 = .int .u64 n3) := ⟨e0⟩
  have EE3 := Aside0.mk ee
  have d3 := F4.out.cell 18 (by decide)
  have d4 := F4.out.cell 19 (by decide)
  rw [show f4 18 = .int .i64 (z : Int) from e3] at d3
  rw [show f4 19 = .int .i64 pf from e4] at d4
  have E4 : Aside0 (f4 19 = .int .i64 pf) := ⟨e4⟩
  clear hF e0 e1 e3 e4 ee
  have c0_ := G.out.cell 15 (by decide)
  have z0_ := G.out.frozen 15
  have c1_ := G.out.cell 16 (by decide)
  have z1_ := G.out.frozen 16
  have c2_ := G.out.cell 17 (by decide)
  have z2_ := G.out.frozen 17
  have c3_ := G.out.cell 18 (by decide)
  have z3_ := G.out.frozen 18
  have c4_ := G.out.cell 19 (by decide)
  have z4_ := G.out.frozen 19
  by_cases hf : pf = 0
  rotate_left
  · have hff : (pf != 0) = true := by simpa using hf
    try simp only [rUint_ff _ _ hf, rNum_ff _ _ hf] at HG
    unfold refMFin at HG
    rw [if_pos (show pf ≠ 0 from hf)] at HG
    clear hf
    obtain ⟨hres, hbel, harr⟩ := F4.out.res 0 0 0 0 0 0 0 0 0
    have HRES := Aside0.mk (box_drew hres)
    have HBEL := Aside0.mk hbel.drew
    have gx := arr_cell harr 19 (by decide)
    rw [E4.out] at gx
    have hzz := HBA.out
    obtain ⟨r0, r1, r2, r3, r4, r5, r6, r7, r8⟩ := F4.out.zx.cells
    obtain ⟨y0, y1, y2, y3, y4, y5, y6, y7, y8⟩ := F4.out.zfrozen
    clear hres hbel harr
    obtain rfl := HG.out
    go_wp2
    go_region
    go_wp2
    exact bodyPost_ret (results_ct (fn := Try.f81) (p := 2) (u := 3) (ty := 29) rfl _ _ w.heap.size 29 #[.int .i64 0, .int .i64 0, .int .i64 0, .int .i64 0, .int .i64 0, .int .i64 0, .int .i64 0, .int .i64 0, .int .i64 0] (0, 0) _ rfl HRES.out Try.underlying29 rfl (by kernel_rfl)) rfl ⟨rfl, HBEL.out⟩
  subst hf
  obtain ⟨A4, hcut, hA', hR'⟩ := cut_ A3 l3.length c3 z HZ.out
  rw [← List.length_drop] at hcut hR'
  have HR4 := Aside0.mk (hR' w l3 HC3.out HR3.out)
  have HY4 := Aside0.mk (HY3.out.drop z)
  have HC4 := Aside0.mk (show (l3.drop z).length ≤ c3 - z by have := HC3.out; rw [List.length_drop]; omega)
  have HL4 := Aside0.mk (show (l3.drop z).length ≤ 140737488355328 by have := HL3.out; rw [List.length_drop]; omega)
  rw [HD.out rfl] at HG
  clear hA' hR' HZ HD
  generalize l3.drop z = l4 at *
  generalize c3 - z = c4 at *
  go_wp2
  rw [rounds_succ]
  go_wp2_with fail
  generalize (((((u3.setCell ⟨ba, 15, none⟩ (.int .u64 n3)).setCell ⟨ba, 16, none⟩ (.int .i64 sg)).setCell ⟨ba, 17, none⟩ (.slice B raw.length m)).setCell ⟨ba, 18, none⟩ (.int .i64 (z : Int))).setCell ⟨ba, 19, none⟩ (.int .i64 0)) = v4 at *
  clear d3 d4 c0_ c1_ c2_ c3_ c4_ z0_ z1_ z2_ z3_ z4_ G E4 HR3 HC3 HY3 HL3
  have CX := Aside0.mk (RD.num A4 c4 l4 v4 (Kd.C_below HR4.out F4.out.bel) HC4.out HY4.out HL4.out)
  unfold RD at CX
  have RG := rd_num l4 HY4.out
  have RN4 := Aside0.mk (rNum_range (l4, 0) HY4.out)
  generalize rNum (l4, 0) = P at *
  generalize fin3 l4 (numGo 10 0 0 l4) = T at *
  obtain ⟨n4, pl, pf⟩ := P
  obtain ⟨tn, sg, raw, z, q⟩ := T
  try dsimp only at *
  obtain ⟨hv, hq, hz0, hz1, hd⟩ := RG
  subst hq
  subst hv
  obtain ⟨z, rfl⟩ := Int.eq_ofNat_of_zero_le hz0
  have HZ := Aside0.mk (show z ≤ l4.length by omega)
  clear hz0 hz1
  rw [Int.toNat_natCast] at hd
  have HD := Aside0.mk hd
  clear hd
  refine CX.out.mono ?_
  rintro e u4 ⟨B, m, rfl, hqB, hBA, hb1⟩
  have G := Aside0.mk (F4.out.below hb1)
  clear hqB hBA hb1 CX
  obtain ⟨f5, hF, e0, e1, e3, e4, ee⟩ := G.out.store5 20 n4 sg (z : Int) pf (.slice B raw.length m)
  have F5 : Aside0 (FS w (((((u4.setCell ⟨ba, 20, none⟩ (.int .u64 n4)).setCell ⟨ba, 21, none⟩ (.int .i64 sg)).setCell ⟨ba, 22, none⟩ (.slice B raw.length m)).setCell ⟨ba, 23, none⟩ (.int .i64 (z : Int))).setCell ⟨ba, 24, none⟩ (.int .i64 pf)) ba f5) := ⟨hF⟩
  have E4 : Aside0 (f5 20 = .int .u64 n4) := ⟨e0⟩
  have EE4 := Aside0.mk ee
  have d3 := F5.out.cell 23 (by decide)
  have d4 := F5.out.cell 24 (by decide)
  rw [show f5 23 = .int .i64 (z : Int) from e3] at d3
  rw [show f5 24 = .int .i64 pf from e4] at d4
  have E4 : Aside0 (f5 24 = .int .i64 pf) := ⟨e4⟩
  clear hF e0 e1 e3 e4 ee
  have c0_ := G.out.cell 20 (by decide)
  have z0_ := G.out.frozen 20
  have c1_ := G.out.cell 21 (by decide)
  have z1_ := G.out.frozen 21
  have c2_ := G.out.cell 22 (by decide)
  have z2_ := G.out.frozen 22
  have c3_ := G.out.cell 23 (by decide)
  have z3_ := G.out.frozen 23
  have c4_ := G.out.cell 24 (by decide)
  have z4_ := G.out.frozen 24
  by_cases hf : pf = 0
  rotate_left
  · have hff : (pf != 0) = true := by simpa using hf
    try simp only [rUint_ff _ _ hf, rNum_ff _ _ hf] at HG
    unfold refMFin at HG
    rw [if_pos (show pf ≠ 0 from hf)] at HG
    clear hf
    obtain ⟨hres, hbel, harr⟩ := F5.out.res 0 0 0 0 0 0 0 0 0
    have HRES := Aside0.mk (box_drew hres)
    have HBEL := Aside0.mk hbel.drew
    have gx := arr_cell harr 24 (by decide)
    rw [E4.out] at gx
    have hzz := HBA.out
    obtain ⟨r0, r1, r2, r3, r4, r5, r6, r7, r8⟩ := F5.out.zx.cells
    obtain ⟨y0, y1, y2, y3, y4, y5, y6, y7, y8⟩ := F5.out.zfrozen
    clear hres hbel harr
    obtain rfl := HG.out
    go_wp2
    go_region
    go_wp2
    exact bodyPost_ret (results_ct (fn := Try.f81) (p := 2) (u := 3) (ty := 29) rfl _ _ w.heap.size 29 #[.int .i64 0, .int .i64 0, .int .i64 0, .int .i64 0, .int .i64 0, .int .i64 0, .int .i64 0, .int .i64 0, .int .i64 0] (0, 0) _ rfl HRES.out Try.underlying29 rfl (by kernel_rfl)) rfl ⟨rfl, HBEL.out⟩
  subst hf
  obtain ⟨A5, hcut, hA', hR'⟩ := cut_ A4 l4.length c4 z HZ.out
  rw [← List.length_drop] at hcut hR'
  have HR5 := Aside0.mk (hR' w l4 HC4.out HR4.out)
  have HY5 := Aside0.mk (HY4.out.drop z)
  have HC5 := Aside0.mk (show (l4.drop z).length ≤ c4 - z by have := HC4.out; rw [List.length_drop]; omega)
  have HL5 := Aside0.mk (show (l4.drop z).length ≤ 140737488355328 by have := HL4.out; rw [List.length_drop]; omega)
  rw [HD.out rfl] at HG
  clear hA' hR' HZ HD
  generalize l4.drop z = l5 at *
  generalize c4 - z = c5 at *
  go_wp2
  rw [rounds_succ]
  go_wp2_with fail
  generalize (((((u4.setCell ⟨ba, 20, none⟩ (.int .u64 n4)).setCell ⟨ba, 21, none⟩ (.int .i64 sg)).setCell ⟨ba, 22, none⟩ (.slice B raw.length m)).setCell ⟨ba, 23, none⟩ (.int .i64 (z : Int))).setCell ⟨ba, 24, none⟩ (.int .i64 0)) = v5 at *
  clear d3 d4 c0_ c1_ c2_ c3_ c4_ z0_ z1_ z2_ z3_ z4_ G E4 HR4 HC4 HY4 HL4
  have CX := Aside0.mk (RD.int A5 c5 l5 v5 (Kd.C_below HR5.out F5.out.bel) HC5.out HY5.out)
  unfold RD at CX
  have RG := rd_int l5 HY5.out
  have RN5 := Aside0.mk (rUint_range (l5, 0) 8 HY5.out)
  generalize rUint (l5, 0) 8 = P at *
  generalize rdInt l5 = T at *
  obtain ⟨n5, pl, pf⟩ := P
  obtain ⟨tn, sg, raw, z, q⟩ := T
  try dsimp only at *
  obtain ⟨hv, hq, hz0, hz1, hd⟩ := RG
  subst hq
  generalize unzig n5 = g5 at *
  subst hv
  obtain ⟨z, rfl⟩ := Int.eq_ofNat_of_zero_le hz0
  have HZ := Aside0.mk (show z ≤ l5.length by omega)
  clear hz0 hz1
  rw [Int.toNat_natCast] at hd
  have HD := Aside0.mk hd
  clear hd
  refine CX.out.mono ?_
  rintro e u5 ⟨B, m, rfl, hqB, hBA, hb1⟩
  have G := Aside0.mk (F5.out.below hb1)
  clear hqB hBA hb1 CX
  obtain ⟨f6, hF, e0, e1, e3, e4, ee⟩ := G.out.store5 25 tn g5 (z : Int) pf (.slice B raw.length m)
  have F6 : Aside0 (FS w (((((u5.setCell ⟨ba, 25, none⟩ (.int .u64 tn)).setCell ⟨ba, 26, none⟩ (.int .i64 g5)).setCell ⟨ba, 27, none⟩ (.slice B raw.length m)).setCell ⟨ba, 28, none⟩ (.int .i64 (z : Int))).setCell ⟨ba, 29, none⟩ (.int .i64 pf)) ba f6) := ⟨hF⟩
  have E5 : Aside0 (f6 26 = .int .i64 g5) := ⟨e1⟩
  have EE5 := Aside0.mk ee
  have d3 := F6.out.cell 28 (by decide)
  have d4 := F6.out.cell 29 (by decide)
  rw [show f6 28 = .int .i64 (z : Int) from e3] at d3
  rw [show f6 29 = .int .i64 pf from e4] at d4
  have E4 : Aside0 (f6 29 = .int .i64 pf) := ⟨e4⟩
  clear hF e0 e1 e3 e4 ee
  have c0_ := G.out.cell 25 (by decide)
  have z0_ := G.out.frozen 25
  have c1_ := G.out.cell 26 (by decide)
  have z1_ := G.out.frozen 26
  have c2_ := G.out.cell 27 (by decide)
  have z2_ := G.out.frozen 27
  have c3_ := G.out.cell 28 (by decide)
  have z3_ := G.out.frozen 28
  have c4_ := G.out.cell 29 (by decide)
  have z4_ := G.out.frozen 29
  by_cases hf : pf = 0
  rotate_left
  · have hff : (pf != 0) = true := by simpa using hf
    try simp only [rUint_ff _ _ hf, rNum_ff _ _ hf] at HG
    unfold refMFin at HG
    rw [if_pos (show pf ≠ 0 from hf)] at HG
    clear hf
    obtain ⟨hres, hbel, harr⟩ := F6.out.res 0 0 0 0 0 0 0 0 0
    have HRES := Aside0.mk (box_drew hres)
    have HBEL := Aside0.mk hbel.drew
    have gx := arr_cell harr 29 (by decide)
    rw [E4.out] at gx
    have hzz := HBA.out
    obtain ⟨r0, r1, r2, r3, r4, r5, r6, r7, r8⟩ := F6.out.zx.cells
    obtain ⟨y0, y1, y2, y3, y4, y5, y6, y7, y8⟩ := F6.out.zfrozen
    clear hres hbel harr
    obtain rfl := HG.out
    go_wp2
    go_region
    go_wp2
    exact bodyPost_ret (results_ct (fn := Try.f81) (p := 2) (u := 3) (ty := 29) rfl _ _ w.heap.size 29 #[.int .i64 0, .int .i64 0, .int .i64 0, .int .i64 0, .int .i64 0, .int .i64 0, .int .i64 0, .int .i64 0, .int .i64 0] (0, 0) _ rfl HRES.out Try.underlying29 rfl (by kernel_rfl)) rfl ⟨rfl, HBEL.out⟩
  subst hf
  obtain ⟨A6, hcut, hA', hR'⟩ := cut_ A5 l5.length c5 z HZ.out
  rw [← List.length_drop] at hcut hR'
  have HR6 := Aside0.mk (hR' w l5 HC5.out HR5.out)
  have HY6 := Aside0.mk (HY5.out.drop z)
  have HC6 := Aside0.mk (show (l5.drop z).length ≤ c5 - z by have := HC5.out; rw [List.length_drop]; omega)
  have HL6 := Aside0.mk (show (l5.drop z).length ≤ 140737488355328 by have := HL5.out; rw [List.length_drop]; omega)
  rw [HD.out rfl] at HG
  clear hA' hR' HZ HD
  generalize l5.drop z = l6 at *
  generalize c5 - z = c6 at *
  go_wp2
  rw [rounds_succ]
  go_wp2_with fail
  generalize (((((u5.setCell ⟨ba, 25, none⟩ (.int .u64 tn)).setCell ⟨ba, 26, none⟩ (.int .i64 g5)).setCell ⟨ba, 27, none⟩ (.slice B raw.length m)).setCell ⟨ba, 28, none⟩ (.int .i64 (z : Int))).setCell ⟨ba, 29, none⟩ (.int .i64 0)) = v6 at *
  clear d3 d4 c0_ c1_ c2_ c3_ c4_ z0_ z1_ z2_ z3_ z4_ G E4 HR5 HC5 HY5 HL5
  have CX := Aside0.mk (RD.int A6 c6 l6 v6 (Kd.C_below HR6.out F6.out.bel) HC6.out HY6.out)
  unfold RD at CX
  have RG := rd_int l6 HY6.out
  have RN6 := Aside0.mk (rUint_range (l6, 0) 8 HY6.out)
  generalize rUint (l6, 0) 8 = P at *
  generalize rdInt l6 = T at *
  obtain ⟨n6, pl, pf⟩ := P
  obtain ⟨tn, sg, raw, z, q⟩ := T
  try dsimp only at *
  obtain ⟨hv, hq, hz0, hz1, hd⟩ := RG
  subst hq
  generalize unzig n6 = g6 at *
  subst hv
  obtain ⟨z, rfl⟩ := Int.eq_ofNat_of_zero_le hz0
  have HZ := Aside0.mk (show z ≤ l6.length by omega)
  clear hz0 hz1
  rw [Int.toNat_natCast] at hd
  have HD := Aside0.mk hd
  clear hd
  refine CX.out.mono ?_
  rintro e u6 ⟨B, m, rfl, hqB, hBA, hb1⟩
  have G := Aside0.mk (F6.out.below hb1)
  clear hqB hBA hb1 CX
  obtain ⟨f7, hF, e0, e1, e3, e4, ee⟩ := G.out.store5 30 tn g6 (z : Int) pf (.slice B raw.length m)
  have F7 : Aside0 (FS w (((((u6.setCell ⟨ba, 30, none⟩ (.int .u64 tn)).setCell ⟨ba, 31, none⟩ (.int .i64 g6)).setCell ⟨ba, 32, none⟩ (.slice B raw.length m)).setCell ⟨ba, 33, none⟩ (.int .i64 (z : Int))).setCell ⟨ba, 34, none⟩ (.int .i64 pf)) ba f7) := ⟨hF⟩
  have E6 : Aside0 (f7 31 = .int .i64 g6) := ⟨e1⟩
  have EE6 := Aside0.mk ee
  have d3 := F7.out.cell 33 (by decide)
  have d4 := F7.out.cell 34 (by decide)
  rw [show f7 33 = .int .i64 (z : Int) from e3] at d3
  rw [show f7 34 = .int .i64 pf from e4] at d4
  have E4 : Aside0 (f7 34 = .int .i64 pf) := ⟨e4⟩
  clear hF e0 e1 e3 e4 ee
  have c0_ := G.out.cell 30 (by decide)
  have z0_ := G.out.frozen 30
  have c1_ := G.out.cell 31 (by decide)
  have z1_ := G.out.frozen 31
  have c2_ := G.out.cell 32 (by decide)
  have z2_ := G.out.frozen 32
  have c3_ := G.out.cell 33 (by decide)
  have z3_ := G.out.frozen 33
  have c4_ := G.out.cell 34 (by decide)
  have z4_ := G.out.frozen 34
  by_cases hf : pf = 0
  rotate_left
  · have hff : (pf != 0) = true := by simpa using hf
    try simp only [rUint_ff _ _ hf, rNum_ff _ _ hf] at HG
    unfold refMFin at HG
    rw [if_pos (show pf ≠ 0 from hf)] at HG
    clear hf
    obtain ⟨hres, hbel, harr⟩ := F7.out.res 0 0 0 0 0 0 0 0 0
    have HRES := Aside0.mk (box_drew hres)
    have HBEL := Aside0.mk hbel.drew
    have gx := arr_cell harr 34 (by decide)
    rw [E4.out] at gx
    have hzz := HBA.out
    obtain ⟨r0, r1, r2, r3, r4, r5, r6, r7, r8⟩ := F7.out.zx.cells
    obtain ⟨y0, y1, y2, y3, y4, y5, y6, y7, y8⟩ := F7.out.zfrozen
    clear hres hbel harr
    obtain rfl := HG.out
    go_wp2
    go_region
    go_wp2
    exact bodyPost_ret (results_ct (fn := Try.f81) (p := 2) (u := 3) (ty := 29) rfl _ _ w.heap.size 29 #[.int .i64 0, .int .i64 0, .int .i64 0, .int .i64 0, .int .i64 0, .int .i64 0, .int .i64 0, .int .i64 0, .int .i64 0] (0, 0) _ rfl HRES.out Try.underlying29 rfl (by kernel_rfl)) rfl ⟨rfl, HBEL.out⟩
  subst hf
  obtain ⟨A7, hcut, hA', hR'⟩ := cut_ A6 l6.length c6 z HZ.out
  rw [← List.length_drop] at hcut hR'
  have HR7 := Aside0.mk (hR' w l6 HC6.out HR6.out)
  have HY7 := Aside0.mk (HY6.out.drop z)
  have HC7 := Aside0.mk (show (l6.drop z).length ≤ c6 - z by have := HC6.out; rw [List.length_drop]; omega)
  have HL7 := Aside0.mk (show (l6.drop z).length ≤ 140737488355328 by have := HL6.out; rw [List.length_drop]; omega)
  rw [HD.out rfl] at HG
  clear hA' hR' HZ HD
  generalize l6.drop z = l7 at *
  generalize c6 - z = c7 at *
  go_wp2
  rw [rounds_succ]
  go_wp2_with fail
  generalize (((((u6.setCell ⟨ba, 30, none⟩ (.int .u64 tn)).setCell ⟨ba, 31, none⟩ (.int .i64 g6)).setCell ⟨ba, 32, none⟩ (.slice B raw.length m)).setCell ⟨ba, 33, none⟩ (.int .i64 (z : Int))).setCell ⟨ba, 34, none⟩ (.int .i64 0)) = v7 at *
  clear d3 d4 c0_ c1_ c2_ c3_ c4_ z0_ z1_ z2_ z3_ z4_ G E4 HR6 HC6 HY6 HL6
  have CX := Aside0.mk (RD.int A7 c7 l7 v7 (Kd.C_below HR7.out F7.out.bel) HC7.out HY7.out)
  unfold RD at CX
  have RG := rd_int l7 HY7.out
  have RN7 := Aside0.mk (rUint_range (l7, 0) 8 HY7.out)
  generalize rUint (l7, 0) 8 = P at *
  generalize rdInt l7 = T at *
  obtain ⟨n7, pl, pf⟩ := P
  obtain ⟨tn, sg, raw, z, q⟩ := T
  try dsimp only at *
  obtain ⟨hv, hq, hz0, hz1, hd⟩ := RG
  subst hq
  generalize unzig n7 = g7 at *
  subst hv
  obtain ⟨z, rfl⟩ := Int.eq_ofNat_of_zero_le hz0
  have HZ := Aside0.mk (show z ≤ l7.length by omega)
  clear hz0 hz1
  rw [Int.toNat_natCast] at hd
  have HD := Aside0.mk hd
  clear hd
  refine CX.out.mono ?_
  rintro e u7 ⟨B, m, rfl, hqB, hBA, hb1⟩
  have G := Aside0.mk (F7.out.below hb1)
  clear hqB hBA hb1 CX
  obtain ⟨f8, hF, e0, e1, e3, e4, ee⟩ := G.out.store5 35 tn g7 (z : Int) pf (.slice B raw.length m)
  have F8 : Aside0 (FS w (((((u7.setCell ⟨ba, 35, none⟩ (.int .u64 tn)).setCell ⟨ba, 36, none⟩ (.int .i64 g7)).setCell ⟨ba, 37, none⟩ (.slice B raw.length m)).setCell ⟨ba, 38, none⟩ (.int .i64 (z : Int))).setCell ⟨ba, 39, none⟩ (.int .i64 pf)) ba f8) := ⟨hF⟩
  have E7 : Aside0 (f8 36 = .int .i64 g7) := ⟨e1⟩
  have EE7 := Aside0.mk ee
  have d3 := F8.out.cell 38 (by decide)
  have d4 := F8.out.cell 39 (by decide)
  rw [show f8 38 = .int .i64 (z : Int) from e3] at d3
  rw [show f8 39 = .int .i64 pf from e4] at d4
  have E4 : Aside0 (f8 39 = .int .i64 pf) := ⟨e4⟩
  clear hF e0 e1 e3 e4 ee
  have c0_ := G.out.cell 35 (by decide)
  have z0_ := G.out.frozen 35
  have c1_ := G.out.cell 36 (by decide)
  have z1_ := G.out.frozen 36
  have c2_ := G.out.cell 37 (by decide)
  have z2_ := G.out.frozen 37
  have c3_ := G.out.cell 38 (by decide)
  have z3_ := G.out.frozen 38
  have c4_ := G.out.cell 39 (by decide)
  have z4_ := G.out.frozen 39
  by_cases hf : pf = 0
  rotate_left
  · have hff : (pf != 0) = true := by simpa using hf
    try simp only [rUint_ff _ _ hf, rNum_ff _ _ hf] at HG
    unfold refMFin at HG
    rw [if_pos (show pf ≠ 0 from hf)] at HG
    clear hf
    obtain ⟨hres, hbel, harr⟩ := F8.out.res 0 0 0 0 0 0 0 0 0
    have HRES := Aside0.mk (box_drew hres)
    have HBEL := Aside0.mk hbel.drew
    have gx := arr_cell harr 39 (by decide)
    rw [E4.out] at gx
    have hzz := HBA.out
    obtain ⟨r0, r1, r2, r3, r4, r5, r6, r7, r8⟩ := F8.out.zx.cells
    obtain ⟨y0, y1, y2, y3, y4, y5, y6, y7, y8⟩ := F8.out.zfrozen
    clear hres hbel harr
    obtain rfl := HG.out
    go_wp2
    go_region
    go_wp2
    exact bodyPost_ret (results_ct (fn := Try.f81) (p := 2) (u := 3) (ty := 29) rfl _ _ w.heap.size 29 #[.int .i64 0, .int .i64 0, .int .i64 0, .int .i64 0, .int .i64 0, .int .i64 0, .int .i64 0, .int .i64 0, .int .i64 0] (0, 0) _ rfl HRES.out Try.underlying29 rfl (by kernel_rfl)) rfl ⟨rfl, HBEL.out⟩
  subst hf
  obtain ⟨A8, hcut, hA', hR'⟩ := cut_ A7 l7.length c7 z HZ.out
  rw [← List.length_drop] at hcut hR'
  have HR8 := Aside0.mk (hR' w l7 HC7.out HR7.out)
  have HY8 := Aside0.mk (HY7.out.drop z)
  have HC8 := Aside0.mk (show (l7.drop z).length ≤ c7 - z by have := HC7.out; rw [List.length_drop]; omega)
  have HL8 := Aside0.mk (show (l7.drop z).length ≤ 140737488355328 by have := HL7.out; rw [List.length_drop]; omega)
  rw [HD.out rfl] at HG
  clear hA' hR' HZ HD
  generalize l7.drop z = l8 at *
  generalize c7 - z = c8 at *
  go_wp2
  rw [rounds_succ]
  go_wp2_with fail
  generalize (((((u7.setCell ⟨ba, 35, none⟩ (.int .u64 tn)).setCell ⟨ba, 36, none⟩ (.int .i64 g7)).setCell ⟨ba, 37, none⟩ (.slice B raw.length m)).setCell ⟨ba, 38, none⟩ (.int .i64 (z : Int))).setCell ⟨ba, 39, none⟩ (.int .i64 0)) = v8 at *
  clear d3 d4 c0_ c1_ c2_ c3_ c4_ z0_ z1_ z2_ z3_ z4_ G E4 HR7 HC7 HY7 HL7
  have CX := Aside0.mk (RD.int A8 c8 l8 v8 (Kd.C_below HR8.out F8.out.bel) HC8.out HY8.out)
  unfold RD at CX
  have RG := rd_int l8 HY8.out
  have RN8 := Aside0.mk (rUint_range (l8, 0) 8 HY8.out)
  generalize rUint (l8, 0) 8 = P at *
  generalize rdInt l8 = T at *
  obtain ⟨n8, pl, pf⟩ := P
  obtain ⟨tn, sg, raw, z, q⟩ := T
  try dsimp only at *
  obtain ⟨hv, hq, hz0, hz1, hd⟩ := RG
  subst hq
  generalize unzig n8 = g8 at *
  subst hv
  obtain ⟨z, rfl⟩ := Int.eq_ofNat_of_zero_le hz0
  have HZ := Aside0.mk (show z ≤ l8.length by omega)
  clear hz0 hz1
  rw [Int.toNat_natCast] at hd
  have HD := Aside0.mk hd
  clear hd
  refine CX.out.mono ?_
  rintro e u8 ⟨B, m, rfl, hqB, hBA, hb1⟩
  have G := Aside0.mk (F8.out.below hb1)
  clear hqB hBA hb1 CX
  obtain ⟨f9, hF, e0, e1, e3, e4, ee⟩ := G.out.store5 40 tn g8 (z : Int) pf (.slice B raw.length m)
  have F9 : Aside0 (FS w (((((u8.setCell ⟨ba, 40, none⟩ (.int .u64 tn)).setCell ⟨ba, 41, none⟩ (.int .i64 g8)).setCell ⟨ba, 42, none⟩ (.slice B raw.length m)).setCell ⟨ba, 43, none⟩ (.int .i64 (z : Int))).setCell ⟨ba, 44, none⟩ (.int .i64 pf)) ba f9) := ⟨hF⟩
  have E8 : Aside0 (f9 41 = .int .i64 g8) := ⟨e1⟩
  have EE8 := Aside0.mk ee
  have d3 := F9.out.cell 43 (by decide)
  have d4 := F9.out.cell 44 (by decide)
  rw [show f9 43 = .int .i64 (z : Int) from e3] at d3
  rw [show f9 44 = .int .i64 pf from e4] at d4
  have E4 : Aside0 (f9 44 = .int .i64 pf) := ⟨e4⟩
  clear hF e0 e1 e3 e4 ee
  have c0_ := G.out.cell 40 (by decide)
  have z0_ := G.out.frozen 40
  have c1_ := G.out.cell 41 (by decide)
  have z1_ := G.out.frozen 41
  have c2_ := G.out.cell 42 (by decide)
  have z2_ := G.out.frozen 42
  have c3_ := G.out.cell 43 (by decide)
  have z3_ := G.out.frozen 43
  have c4_ := G.out.cell 44 (by decide)
  have z4_ := G.out.frozen 44
  by_cases hf : pf = 0
  rotate_left
  · have hff : (pf != 0) = true := by simpa using hf
    try simp only [rUint_ff _ _ hf, rNum_ff _ _ hf] at HG
    unfold refMFin at HG
    rw [if_pos (show pf ≠ 0 from hf)] at HG
    clear hf
    obtain ⟨hres, hbel, harr⟩ := F9.out.res 0 0 0 0 0 0 0 0 0
    have HRES := Aside0.mk (box_drew hres)
    have HBEL := Aside0.mk hbel.drew
    have gx := arr_cell harr 44 (by decide)
    rw [E4.out] at gx
    have hzz := HBA.out
    obtain ⟨r0, r1, r2, r3, r4, r5, r6, r7, r8⟩ := F9.out.zx.cells
    obtain ⟨y0, y1, y2, y3, y4, y5, y6, y7, y8⟩ := F9.out.zfrozen
    clear hres hbel harr
    obtain rfl := HG.out
    go_wp2
    go_region
    go_wp2
    exact bodyPost_ret (results_ct (fn := Try.f81) (p := 2) (u := 3) (ty := 29) rfl _ _ w.heap.size 29 #[.int .i64 0, .int .i64 0, .int .i64 0, .int .i64 0, .int .i64 0, .int .i64 0, .int .i64 0, .int .i64 0, .int .i64 0] (0, 0) _ rfl HRES.out Try.underlying29 rfl (by kernel_rfl)) rfl ⟨rfl, HBEL.out⟩
  subst hf
  obtain ⟨A9, hcut, hA', hR'⟩ := cut_ A8 l8.length c8 z HZ.out
  rw [← List.length_drop] at hcut hR'
  have HR9 := Aside0.mk (hR' w l8 HC8.out HR8.out)
  have HY9 := Aside0.mk (HY8.out.drop z)
  have HC9 := Aside0.mk (show (l8.drop z).length ≤ c8 - z by have := HC8.out; rw [List.length_drop]; omega)
  have HL9 := Aside0.mk (show (l8.drop z).length ≤ 140737488355328 by have := HL8.out; rw [List.length_drop]; omega)
  rw [HD.out rfl] at HG
  clear hA' hR' HZ HD
  generalize l8.drop z = l9 at *
  generalize c8 - z = c9 at *
  go_wp2
  rw [rounds_succ]
  generalize (((((u8.setCell ⟨ba, 40, none⟩ (.int .u64 tn)).setCell ⟨ba, 41, none⟩ (.int .i64 g8)).setCell ⟨ba, 42, none⟩ (.slice B raw.length m)).setCell ⟨ba, 43, none⟩ (.int .i64 (z : Int))).setCell ⟨ba, 44, none⟩ (.int .i64 0)) = v9 at *
  clear d3 d4 c0_ c1_ c2_ c3_ c4_ z0_ z1_ z2_ z3_ z4_ G E4 HR8 HC8 HY8 HL8
  have x0 := F9.out.cell 0 (by decide)
  rw [((EE8.out 0 (by omega)).trans ((EE7.out 0 (by omega)).trans ((EE6.out 0 (by omega)).trans ((EE5.out 0 (by omega)).trans ((EE4.out 0 (by omega)).trans ((EE3.out 0 (by omega)).trans ((EE2.out 0 (by omega)).trans ((EE1.out 0 (by omega)).trans E0.out))))))))] at x0
  have x1 := F9.out.cell 5 (by decide)
  rw [((EE8.out 5 (by omega)).trans ((EE7.out 5 (by omega)).trans ((EE6.out 5 (by omega)).trans ((EE5.out 5 (by omega)).trans ((EE4.out 5 (by omega)).trans ((EE3.out 5 (by omega)).trans ((EE2.out 5 (by omega)).trans E1.out)))))))] at x1
  have x2 := F9.out.cell 10 (by decide)
  rw [((EE8.out 10 (by omega)).trans ((EE7.out 10 (by omega)).trans ((EE6.out 10 (by omega)).trans ((EE5.out 10 (by omega)).trans ((EE4.out 10 (by omega)).trans ((EE3.out 10 (by omega)).trans E2.out))))))] at x2
  have x3 := F9.out.cell 15 (by decide)
  rw [((EE8.out 15 (by omega)).trans ((EE7.out 15 (by omega)).trans ((EE6.out 15 (by omega)).trans ((EE5.out 15 (by omega)).trans ((EE4.out 15 (by omega)).trans E3.out)))))] at x3
  have x4 := F9.out.cell 20 (by decide)
  rw [((EE8.out 20 (by omega)).trans ((EE7.out 20 (by omega)).trans ((EE6.out 20 (by omega)).trans ((EE5.out 20 (by omega)).trans E4.out))))] at x4
  have x5 := F9.out.cell 26 (by decide)
  rw [((EE8.out 26 (by omega)).trans ((EE7.out 26 (by omega)).trans ((EE6.out 26 (by omega)).trans E5.out)))] at x5
  have x6 := F9.out.cell 31 (by decide)
  rw [((EE8.out 31 (by omega)).trans ((EE7.out 31 (by omega)).trans E6.out))] at x6
  have x7 := F9.out.cell 36 (by decide)
  rw [((EE8.out 36 (by omega)).trans E7.out)] at x7
  have x8 := F9.out.cell 41 (by decide)
  rw [E8.out] at x8
  unfold refMFin at HG
  rw [if_neg (by simp)] at HG
  dsimp only at HG
  obtain ⟨lm, hlm⟩ : ∃ m : Int, (l9.length : Int) = m := ⟨_, rfl⟩
  have HLM := Aside0.mk hlm
  have n00 := RN0.out.1
  have n01 := RN0.out.2
  have n10 := RN1.out.1
  have n11 := RN1.out.2
  have n20 := RN2.out.1
  have n21 := RN2.out.2
  have n30 := RN3.out.1
  have n40 := RN4.out.1
  obtain ⟨r0, r1, r2, r3, r4, r5, r6, r7, r8⟩ := F9.out.zx.cells
  obtain ⟨y0, y1, y2, y3, y4, y5, y6, y7, y8⟩ := F9.out.zfrozen
  have hl9 : (l9.length : Int) = lm := hlm
  by_cases hl : 0 < lm
  · have h0 : 0 < l9.length := by omega
    clear hlm
    rw [if_pos (Or.inl h0)] at HG
    obtain ⟨hres, hbel, _⟩ := F9.out.res 0 0 0 0 0 0 0 0 0
    have HRES := Aside0.mk hres
    have HBEL := Aside0.mk hbel
    clear hres hbel
    obtain rfl := HG.out
    go_wp2
    exact bodyPost_ret (results_ct (fn := Try.f81) (p := 2) (u := 3) (ty := 29) rfl _ _ w.heap.size 29 #[.int .i64 0, .int .i64 0, .int .i64 0, .int .i64 0, .int .i64 0, .int .i64 0, .int .i64 0, .int .i64 0, .int .i64 0] (0, 0) _ rfl HRES.out Try.underlying29 rfl (by kernel_rfl)) rfl ⟨rfl, HBEL.out⟩
  · have h0 : ¬ 0 < l9.length := by omega
    by_cases hs : 4611686018427387904 < n3
    · rw [if_pos (Or.inr (Or.inl hs))] at HG
      obtain ⟨hres, hbel, _⟩ := F9.out.res 0 0 0 0 0 0 0 0 0
      have HRES := Aside0.mk hres
      have HBEL := Aside0.mk hbel
      clear hres hbel
      obtain rfl := HG.out
      go_wp2
      exact bodyPost_ret (results_ct (fn := Try.f81) (p := 2) (u := 3) (ty := 29) rfl _ _ w.heap.size 29 #[.int .i64 0, .int .i64 0, .int .i64 0, .int .i64 0, .int .i64 0, .int .i64 0, .int .i64 0, .int .i64 0, .int .i64 0] (0, 0) _ rfl HRES.out Try.underlying29 rfl (by kernel_rfl)) rfl ⟨rfl, HBEL.out⟩
    · by_cases ht : 4611686018427387904 < n4
      · rw [if_pos (Or.inr (Or.inr ht))] at HG
        obtain ⟨hres, hbel, _⟩ := F9.out.res 0 0 0 0 0 0 0 0 0
        have HRES := Aside0.mk hres
        have HBEL := Aside0.mk hbel
        clear hres hbel
        obtain rfl := HG.out
        go_wp2
        exact bodyPost_ret (results_ct (fn := Try.f81) (p := 2) (u := 3) (ty := 29) rfl _ _ w.heap.size 29 #[.int .i64 0, .int .i64 0, .int .i64 0, .int .i64 0, .int .i64 0, .int .i64 0, .int .i64 0, .int .i64 0, .int .i64 0] (0, 0) _ rfl HRES.out Try.underlying29 rfl (by kernel_rfl)) rfl ⟨rfl, HBEL.out⟩
      · rw [if_neg (by have := HLM.out; omega)] at HG
        have F10 := Aside0.mk (F9.out.below (below_alloc (Below.refl _ _) (.cells #[.int .i64 n0, .int .i64 n1, .int .i64 n3, .int .i64 n4, .int .i64 g5, .int .i64 g6, .int .i64 g7, .int .i64 g8, .int .i64 n2] 29)))
        have BM := Aside0.mk (show Box9 (v9.alloc (.cells #[.int .i64 n0, .int .i64 n1, .int .i64 n3, .int .i64 n4, .int .i64 g5, .int .i64 g6, .int .i64 g7, .int .i64 g8, .int .i64 n2] 29)) 29 v9.heap.size n0 n1 n3 n4 g5 g6 g7 g8 n2 from blk_new v9 _)
        go_wp2_with fail
        refine (refMRight_calls ⟨n0, n1, n3, n4, g5, g6, g7, g8, n2⟩ _).mono ?_
        rintro e vr ⟨rfl, hbr⟩
        have F11 := Aside0.mk (F10.out.below hbr)
        have BM2 := Aside0.mk (show Box9 vr 29 v9.heap.size n0 n1 n3 n4 g5 g6 g7 g8 n2 from (hbr.block _ (by simp)).trans BM.out)
        clear hbr r0 r1 r2 r3 r4 r5 r6 r7 r8 y0 y1 y2 y3 y4 y5 y6 y7 y8 x0 x1 x2 x3 x4 x5 x6 x7 x8
        obtain ⟨r0, r1, r2, r3, r4, r5, r6, r7, r8⟩ := F11.out.zx.cells
        obtain ⟨y0, y1, y2, y3, y4, y5, y6, y7, y8⟩ := F11.out.zfrozen
        obtain ⟨q0, q1, q2, q3, q4, q5, q6, q7, q8⟩ := BM2.out.cells
        cases hr : msgRight ⟨n0, n1, n3, n4, g5, g6, g7, g8, n2⟩ with
        | false =>
          rw [if_pos hr] at HG
          obtain ⟨hres, hbel, _⟩ := F11.out.res 0 0 0 0 0 0 0 0 0
          have HRES := Aside0.mk hres
          have HBEL := Aside0.mk hbel
          clear hres hbel
          obtain rfl := HG.out
          go_wp2
          exact bodyPost_ret (results_ct (fn := Try.f81) (p := 2) (u := 3) (ty := 29) rfl _ _ w.heap.size 29 #[.int .i64 0, .int .i64 0, .int .i64 0, .int .i64 0, .int .i64 0, .int .i64 0, .int .i64 0, .int .i64 0, .int .i64 0] (0, 0) _ rfl HRES.out Try.underlying29 rfl (by kernel_rfl)) rfl ⟨rfl, HBEL.out⟩
        | true =>
          rw [if_neg (by rw [hr]; decide)] at HG
          obtain ⟨hres, hbel, _⟩ := F11.out.res n0 n1 n3 n4 g5 g6 g7 g8 n2
          have HRES := Aside0.mk hres
          have HBEL := Aside0.mk hbel
          clear hres hbel
          obtain rfl := HG.out
          go_wp2
          exact bodyPost_ret (results_ct (fn := Try.f81) (p := 2) (u := 3) (ty := 29) rfl _ _ w.heap.size 29 #[.int .i64 n0, .int .i64 n1, .int .i64 n3, .int .i64 n4, .int .i64 g5, .int .i64 g6, .int .i64 g7, .int .i64 g8, .int .i64 n2] (0, 0) _ rfl HRES.out Try.underlying29 rfl (by kernel_rfl)) rfl ⟨rfl, HBEL.out⟩
def damperref06_Decode.f (l0 : List Int) : Option (Int × Int × Int × Int × Int × Int × Int × Int × Int × Int) :=
  if bytB l0 = true ∧ l0.length ≤ 140737488355328 then some ((msgDec l0).1.f0, (msgDec l0).1.f1, (msgDec l0).1.f2, (msgDec l0).1.f3, (msgDec l0).1.f4, (msgDec l0).1.f5, (msgDec l0).1.f6, (msgDec l0).1.f7, (msgDec l0).1.f8, (msgDec l0).2) else none
theorem damperref06_Decode.calls (A0 : Option Addr) (c0 : Nat) (l0 : List Int) (r1 r2 r3 r4 r5 r6 r7 r8 r9 r10 : Int) (w : World) (hr0 : Kd.C (Kd.int .u8) w A0 l0.length l0) (hc0 : l0.length ≤ c0) (h : damperref06_Decode.f l0 = some (r1, r2, r3, r4, r5, r6, r7, r8, r9, r10)) :
    Calls Try.prog 81 #[.slice A0 l0.length c0] w fun e w' => e = .returned (.tuple #[.agg #[.int .i64 r1, .int .i64 r2, .int .i64 r3, .int .i64 r4, .int .i64 r5, .int .i64 r6, .int .i64 r7, .int .i64 r8, .int .i64 r9], .int .i64 r10]) ∧ Below w.heap.size w w' := by
  unfold damperref06_Decode.f at h
  by_cases hp : bytB l0 = true ∧ l0.length ≤ 140737488355328
  · rw [if_pos hp] at h
    have h := Option.some.inj h
    simp only [Prod.mk.injEq] at h
    obtain ⟨rfl, rfl, rfl, rfl, rfl, rfl, rfl, rfl, rfl, rfl⟩ := h
    exact refMDec_calls A0 c0 l0 w hr0 hc0 hp.2 (byt_of hp.1)
  · rw [if_neg hp] at h
    cases h
end Go.Proofs.Ytalpemoodollpaa.P
/- damperref06.All: the messages of any bytes. -/
namespace Go.Proofs.Ytalpemoodollpaa.P
open Go.RowKit Go.Proofs.YtalpemoodollpaaW.PrintWords Go.Proofs.YtalpemoodollpaaW.PrintLast Go.Proofs.YtalpemoodollpaaW.PrintMore
set_option linter.unusedVariables false
set_option linter.unusedSimpArgs false
theorem kIn_ne29 (A : Option Addr) (l : List Int) : ∀ q, q ∈ 30 :: (kIn A l).E → q ≠ 29 := by
  intro q hq
  have : q = 30 := by simpa [kIn] using hq
  omega
theorem take_succ_ {F : List (List Int)} {i : Nat} (h : i < F.length) : F.take (i + 1) = F.take i ++ [F[i]] := List.take_succ_eq_append_getElem h
set_option maxRecDepth 100000 in
set_option maxHeartbeats 4000000 in
theorem refMAll_calls (A0 : Option Addr) (c0 : Nat) (l : List Int) (w : World) (hr0 : Kd.C (Kd.int .u8) w A0 l.length l) (hc0 : l.length ≤ c0) (hl : l.length ≤ 1000000) (hb : Byt l) :
    Calls Try.prog 93 #[.slice A0 l.length c0] w (MAllPost w (msgAll l)) := by
  have hu29 := Try.underlying29
  have RA := Aside0.mk (refAll_calls A0 c0 l w hr0 hc0 hl hb)
  have HC := Aside0.mk hr0
  have HBY := Aside0.mk (frames_byt l.length l (Nat.le_refl _) hb)
  have hcnt := frames_count l.length l (Nat.le_refl _) hb
  have hend := frames_end l hb
  have HF := Aside0.mk (show msgAll l = if firstBad (frames l).1 ≠ 0 then ([], firstBad (frames l).1) else if (frames l).2.2 ≠ 0 then ([], (frames l).2.2) else (msgsOf (frames l).1, 0) from rfl)
  generalize hG : msgAll l = G at *
  clear hG
  obtain ⟨N, hN⟩ : ∃ N, l.length = N := ⟨_, rfl⟩
  have HN := Aside0.mk hN
  rw [hN] at hl hend RA ⊢
  have HPM := Aside0.mk (fun p (hp : p ∈ (frames l).1) => frames_len64 l.length l (Nat.le_refl _) hb p hp)
  generalize frames l = FR at *
  obtain ⟨FF, en, ef⟩ := FR
  dsimp only at hcnt hend HF HBY HPM
  have hFN : FF.length ≤ 1000000 := by omega
  have hFN2 : (FF.length : Int) ≤ 1000000 := by omega
  clear hr0 hc0 hb hN hcnt hend
  go_enter Try.func93, Try.ntmps93
  go_wp2_with fail
  refine RA.out.mono ?_
  rintro e w5 ⟨v1, v2, rfl, hR1, hR2, hb5⟩
  dsimp only at hR1 hR2 ⊢
  obtain ⟨X1, m1, rfl⟩ := Kd.R_slice hR1
  obtain ⟨X2, m2, rfl⟩ := Kd.R_slice hR2
  have H2 := Aside0.mk hR2
  have B5 := Aside0.mk hb5
  clear hR1 hR2 hb5 RA
  generalize (placesOf 0 FF).length = PL at *
  go_wp2_with fail
  go_loopw [4, 9] (fun u4 u9 wr => ∃ (i : Nat) (A : Option Addr) (m : Nat), u9 = .int .i64 (i : Int) ∧ u4 = .slice A i m ∧ i ≤ FF.length ∧ Aside0 (firstBad (FF.take i) = 0) ∧ Aside0 (Kd.R k29 29 wr w.heap.size (fun _ => True) (.slice A i m) (msgsOf (FF.take i))) ∧ Aside0 (Kd.R (kIn A0 l) 30 wr w.heap.size (fun _ => True) (.slice X2 FF.length m2) FF) ∧ Aside0 (Below w.heap.size w wr)) (fun _ u9 _ => (FF.length - (intOf u9).toNat))
  case atStart => exact ⟨0, none, 0, rfl, rfl, by omega, ⟨rfl⟩, ⟨Kd.R_nil _ _ _ _ _⟩, H2, B5⟩
  case round =>
    obtain ⟨i, A, m, rfl, rfl, hi, HBD, HO, HL, HB⟩ := hrel
    by_cases hlt : i < FF.length
    · have q2 := kIn_C (Kd.R_reads' HL.out).2.2 (Kd.C_below HC.out HB.out)
      obtain ⟨a2, A', c', e2, c2, hq, hCC⟩ := at_L4 q2 (i : Int) (by omega) (by omega)
      rw [Int.toNat_natCast] at c2
      have e3 : rd_L4 FF (i : Int) = FF[i] := by rw [rd_L4, Int.toNat_natCast, List.getD_eq_getElem?_getD, List.getElem?_eq_getElem hlt]; rfl
      rw [e3] at c2 hq hCC
      have hmem := List.getElem_mem hlt
      have hp64 := HPM.out _ hmem
      have hbp := HBY.out _ hmem
      have HTS := Aside0.mk (take_succ_ hlt)
      have HPF : Aside0 (FF.take i ++ [FF[i]] <+: FF) := ⟨by rw [← take_succ_ hlt]; exact List.take_prefix _ _⟩
      generalize FF[i] = p at *
      have D8 := Aside0.mk (refMDec_calls A' c' p wr hCC hq (by omega) hbp)
      subst e2
      clear q2 e3 hmem hbp hCC
      generalize hM : msgDec p = M at *
      have HM := Aside0.mk hM
      clear hM
      obtain ⟨mm, mf⟩ := M
      dsimp only at D8
      have hiF : (i : Int) < (FF.length : Int) := by omega
      go_wp2_with fail
      refine D8.out.mono ?_
      rintro e w8 ⟨rfl, hb8⟩
      have B8 := Aside0.mk (below_then HB.out HB.out.size hb8)
      have HO8 := Aside0.mk (Kd.R_below HO.out hb8)
      have HL8 := Aside0.mk (Kd.R_below HL.out hb8)
      clear hb8 D8 HB HO HL c2 hq
      by_cases hf : mf = 0
      · subst hf
        have hL : (msgsOf (FF.take i) ++ [mm]).length = i + 1 := by rw [List.length_append, msgsOf_length, List.length_take, List.length_singleton]; omega
        go_wp2_with (at_builtin; go_must (refine Kd.R_append k29 (w0 := w) w.heap.size rfl (.tmp 36) (.tmp 38) 22 29 _ 72 rfl Try.underlying22 info29m rfl (by decide) (by decide) (.slice A i m) (msgsOf (FF.take i)) mm (msgC mm) (fun _ => True) (fun _ => False) rfl (by rw [World.size_alloc]; rfl) (k29_mkM _ _ _ mm) (fun _ h => False.elim h) (fun _ _ => trivial) (Kd.R_alloc HO8.out _) (below_alloc B8.out _) (by have := B8.out.size; simp; omega) (by rw [msgsOf_length, List.length_take]; omega) ?_; intro v1 w10 hR1 hB1 hg1 hat1; obtain ⟨A1, m1, e1⟩ := Kd.R_slice hR1; rw [hL] at e1; subst e1; obtain ⟨inn, hown⟩ := Kd.R_own (Kd.R_alloc HO8.out (.cells (msgC mm).toArray 29)); have HR1 := Aside0.mk hR1; have HB1 := Aside0.mk hB1; have HL1 := Aside0.mk (R_grown_t (Kd.R_alloc HL8.out (.cells (msgC mm).toArray 29)) hown (kIn_ne29 _ _) hg1); clear hR1 hB1 hg1 hat1 hown))
        go_roundw
        case rel => exact ⟨i + 1, A1, m1, by go_num, rfl, by omega, ⟨by rw [HTS.out]; exact firstBad_snoc HBD.out (by rw [HM.out])⟩, ⟨by rw [HTS.out, msgsOf_snoc, HM.out]; exact HR1.out⟩, HL1, HB1⟩
        case measure => simp [intOf]; omega
      · have hff : (mf != 0) = true := by simpa using hf
        have hGe : Aside0 (G = ([], mf)) := ⟨by
          rw [HF.out, firstBad_stop HBD.out (by rw [HM.out]; exact hf) HPF.out, HM.out, if_pos hf]⟩
        obtain rfl := hGe.out
        go_wp2
        go_ret2
        exact ⟨_, rfl, Kd.R_nil _ _ _ _ _, below_alloc B8.out _⟩
    · obtain rfl : i = FF.length := by omega
      have hbd := HBD.out
      rw [List.take_length] at hbd
      have hmo := HO.out
      rw [List.take_length] at hmo
      have HMO := Aside0.mk hmo
      by_cases hf : ef = 0
      · have hGe : Aside0 (G = (msgsOf FF, 0)) := ⟨by rw [HF.out, if_neg (by rw [hbd]; simp), if_neg (by rw [hf]; simp)]⟩
        clear hbd hmo
        subst hf
        obtain rfl := hGe.out
        go_wp2
        go_ret2
        exact ⟨_, rfl, HMO.out, HB.out⟩
      · have hGe : Aside0 (G = ([], ef)) := ⟨by rw [HF.out, if_neg (by rw [hbd]; simp), if_pos hf]⟩
        have hff : (ef != 0) = true := by simpa using hf
        clear hbd hmo
        obtain rfl := hGe.out
        go_wp2
        go_ret2
        exact ⟨_, rfl, Kd.R_nil _ _ _ _ _, HB.out⟩
def damperref06_All.f (l0 : List Int) : Option (List S29 × Int) := if bytB l0 = true ∧ l0.length ≤ 1000000 then some (msgAll l0) else none
theorem damperref06_All.calls (A0 : Option Addr) (c0 : Nat) (l0 : List Int) (r1 : List S29) (r2 : Int) (w : World) (hr0 : Kd.C (Kd.int .u8) w A0 l0.length l0) (hc0 : l0.length ≤ c0) (h : damperref06_All.f l0 = some (r1, r2)) :
    Calls Try.prog 93 #[.slice A0 l0.length c0] w fun e w' => ∃ v0_ : Value, e = .returned (.tuple #[v0_, .int .i64 r2]) ∧ Kd.R k29 29 w' w.heap.size (fun _ => True) v0_ r1 ∧ Below w.heap.size w w' := by
  unfold damperref06_All.f at h
  by_cases hp : bytB l0 = true ∧ l0.length ≤ 1000000
  · rw [if_pos hp] at h
    have h := Option.some.inj h
    have := refMAll_calls A0 c0 l0 w hr0 hc0 hp.2 (byt_of hp.1)
    rw [h] at this
    exact this
  · rw [if_neg hp] at h
    exact absurd h (by simp)
end Go.Proofs.Ytalpemoodollpaa.P
/- A writer of one's own, call by call. -/
namespace Go.Proofs.Ytalpemoodollpaa.P
open Go.RowKit Go.Proofs.YtalpemoodollpaaW.PrintWords Go.Proofs.YtalpemoodollpaaW.PrintLast Go.Proofs.YtalpemoodollpaaW.PrintMore
set_option linter.unusedVariables false
set_option linter.unusedSimpArgs false

theorem lit_C (W : World) (xs : List Int) (hl : xs.length ≤ 9223372036854775807) : Kd.C (Kd.int .u8) (W.alloc (.cells (nums .u8 xs).toArray 5)) (some ⟨W.heap.size, 0, none⟩) xs.length xs := by
  have h := own_lit W W.heap.size 5 .u8 xs (Nat.le_refl _) hl
  obtain ⟨A, c, e, h2⟩ := own_reads h
  injection e with e1 e2 e3
  subst e1
  exact Kd.C_of_reads (d := (0 : Int)) (h1 := fun _ => rfl) h2
/-- Blocks of other types stay. -/
def KeepT (W W1 : World) (g : Nat) : Prop := ∀ (b : Nat) (cs : Array Value) (t : Nat), W.heap[b]? = some (.cells cs t (0, 0)) → t ≠ 5 → b ≠ g → W1.heap[b]? = some (.cells cs t (0, 0))
structure WK (w0 W : World) (g : Nat) (xs : List Int) : Prop where
  ex : ∃ row, WS W g row xs ∧ ∀ k, row = some k → w0.heap.size ≤ k
  bel : Below w0.heap.size w0 W
  hg : w0.heap.size ≤ g
namespace WK
variable {w0 W W1 : World} {g : Nat} {xs ys : List Int}
theorem new (hB : Below w0.heap.size w0 W) : WK w0 (W.alloc (.cells #[.slice none 0 0] 39)) W.heap.size [] :=
  ⟨⟨none, WS.new W, fun k hk => by cases hk⟩, below_alloc hB _, hB.size⟩
theorem below (h : WK w0 W g xs) (hb : Below W.heap.size W W1) : WK w0 W1 g xs := by
  obtain ⟨⟨row, hs, hr⟩, hB, hg⟩ := h
  exact ⟨⟨row, hs.below hb, hr⟩, below_then hB hB.size hb, hg⟩
theorem alloc (h : WK w0 W g xs) (o : Obj) : WK w0 (W.alloc o) g xs := h.below (below_alloc (Below.refl _ _) _)
theorem drew (h : WK w0 W g xs) : WK w0 W.drew g xs := ⟨h.ex, h.bel.drew, h.hg⟩
/-- What a call leaves. -/
theorem of_post {row : Option Nat} (hs : WS W g row xs) (hr : ∀ k, row = some k → w0.heap.size ≤ k) (hB : Below w0.heap.size w0 W) (hg : w0.heap.size ≤ g) (hp : WPost W g row ys W1) : WK w0 W1 g ys ∧ KeepT W W1 g := by
  obtain ⟨row1, h1, h2, h3⟩ := hp.below hB hg hr
  refine ⟨⟨⟨row1, h1, h3⟩, h2, hg⟩, fun b cs t hb ht hne => ?_⟩
  obtain ⟨_, _, _, hf⟩ := hp
  refine hf.blk hb (fun hS => hS.elim hne (fun hrow => ?_))
  obtain ⟨v, hb2, hr2, ho⟩ := hs
  exact own_ne ho hb (Ne.symm ht) (by rw [hr2, hrow])
theorem num (h : WK w0 W g xs) (n : Int) (h0 : 0 ≤ n) (h1 : n < 18446744073709551616) (hl : xs.length ≤ 1000000) :
    Calls Try.prog 36 #[.pointer (some ⟨g, 0, none⟩), .int .u64 n] W fun e w' => e = .returned (.pointer (some ⟨g, 0, none⟩)) ∧ WK w0 w' g (xs ++ numForm n.toNat) ∧ KeepT W w' g := by
  obtain ⟨⟨row, hs, hr⟩, hB, hg⟩ := h
  have := numForm_ten n h1
  exact (octets_Writer_Num.calls g row xs n W h0 hs (by omega)).mono fun e w' ⟨he, hp⟩ => ⟨he, of_post hs hr hB hg hp⟩
theorem int (h : WK w0 W g xs) (n : Int) (h0 : -9223372036854775808 ≤ n) (h1 : n ≤ 9223372036854775807) (hl : xs.length ≤ 1000000) :
    Calls Try.prog 38 #[.pointer (some ⟨g, 0, none⟩), .int .i64 n] W fun e w' => e = .returned (.pointer (some ⟨g, 0, none⟩)) ∧ WK w0 w' g (xs ++ intForm n) ∧ KeepT W w' g := by
  obtain ⟨⟨row, hs, hr⟩, hB, hg⟩ := h
  exact (octets_Writer_Int.calls g row xs n W h0 h1 hs (by omega)).mono fun e w' ⟨he, hp⟩ => ⟨he, of_post hs hr hB hg hp⟩
theorem uint (h : WK w0 W g xs) (n k : Int) (h0 : 0 ≤ n) (h1 : 1 ≤ k) (h2 : k ≤ 8) (hl : xs.length ≤ 1000000) :
    Calls Try.prog 99 #[.pointer (some ⟨g, 0, none⟩), .int .u64 n, .int .i64 k] W fun e w' => e = .returned (.pointer (some ⟨g, 0, none⟩)) ∧ WK w0 w' g (xs ++ uintForm n.toNat k.toNat) ∧ KeepT W w' g := by
  obtain ⟨⟨row, hs, hr⟩, hB, hg⟩ := h
  exact (octets_Writer_Uint.calls g row xs n k W h0 hs h1 h2 (by omega)).mono fun e w' ⟨he, hp⟩ => ⟨he, of_post hs hr hB hg hp⟩
theorem raw (h : WK w0 W g xs) (zs : List Int) (A : Option Addr) (c : Nat) (hz : Kd.C (Kd.int .u8) W A zs.length zs) (hl : xs.length ≤ 1000000) (hl2 : zs.length ≤ 1000000) :
    Calls Try.prog 94 #[.pointer (some ⟨g, 0, none⟩), .slice A zs.length c] W fun e w' => e = .returned (.pointer (some ⟨g, 0, none⟩)) ∧ WK w0 w' g (xs ++ zs) ∧ KeepT W w' g := by
  obtain ⟨⟨row, hs, hr⟩, hB, hg⟩ := h
  exact (octets_Writer_Raw.calls g row xs zs A c W hs hz (by omega)).mono fun e w' ⟨he, hp⟩ => ⟨he, of_post hs hr hB hg hp⟩
theorem bytes (h : WK w0 W g xs) (hl : xs.length ≤ 100000000) :
    Calls Try.prog 37 #[.pointer (some ⟨g, 0, none⟩)] W fun e w' => ∃ v0_ : Value, e = .returned v0_ ∧ Kd.R (Kd.int .u8) 5 w' w0.heap.size (fun _ => True) v0_ xs ∧ Below w0.heap.size w0 w' ∧ Below W.heap.size W w' := by
  obtain ⟨⟨row, hs, hr⟩, hB, hg⟩ := h
  exact (octets_Writer_Bytes.calls g row xs W hs (by omega)).mono fun e w' ⟨v, he, hR, hb⟩ => ⟨v, he, Kd.R_lower hR hB.size, below_then hB hB.size hb, hb⟩
theorem numA (h : WK w0 W g xs) (o : Obj) (n : Int) (h0 : 0 ≤ n) (h1 : n < 18446744073709551616) (hl : xs.length ≤ 1000000) :
    Calls Try.prog 36 #[.pointer (some ⟨g, 0, none⟩), .int .u64 n] (W.alloc o).drew fun e w' => e = .returned (.pointer (some ⟨g, 0, none⟩)) ∧ WK w0 w' g (xs ++ numForm n.toNat) ∧ KeepT (W.alloc o) w' g ∧ w'.heap[W.heap.size]? = some o := by
  obtain ⟨⟨row, hs, hr⟩, hB, hg⟩ := h
  have := numForm_ten n h1
  have hs2 : WS (W.alloc o).drew g row xs := hs.alloc o
  refine (octets_Writer_Num.calls g row xs n _ h0 hs2 (by omega)).mono fun e w' ⟨he, hp⟩ => ?_
  have h2 := of_post (w0 := w0) hs2 hr (below_alloc hB o).drew hg hp
  refine ⟨he, h2.1, h2.2, ?_⟩
  obtain ⟨_, _, _, hf⟩ := hp
  refine hf.blk (blk_new W o) (fun hS => ?_)
  rcases hS with hS | hS
  · have := hs.lt; omega
  · obtain ⟨v, hb2, hr2, ho⟩ := hs
    have := own_lt ho W.heap.size (by rw [hr2, hS])
    omega
end WK
theorem lit_at {W : World} {b : Nat} {xs : List Int} (h : W.heap[b]? = some (.cells (nums .u8 xs).toArray 5 (0, 0))) (hl : xs.length ≤ 9223372036854775807) : Kd.C (Kd.int .u8) W (some ⟨b, 0, none⟩) xs.length xs := by
  refine Kd.C_of_reads (d := (0 : Int)) (h1 := fun _ => rfl) ⟨rfl, hl, fun _ => ⟨_, rfl, fun j hj => ?_⟩⟩
  rw [add_plain, blk_cell h j]
  simp [nums, List.getD_eq_getElem?_getD, hj]
end Go.Proofs.Ytalpemoodollpaa.P
/- The contract of message.Encode. -/
namespace Go.Proofs.Ytalpemoodollpaa.P
open Go.RowKit Go.Proofs.YtalpemoodollpaaW.PrintWords Go.Proofs.YtalpemoodollpaaW.PrintLast Go.Proofs.YtalpemoodollpaaW.PrintMore
set_option linter.unusedVariables false
set_option linter.unusedSimpArgs false

def message_Encode.f (a0_0 a0_1 a0_2 a0_3 a0_4 a0_5 a0_6 a0_7 a0_8 : Int) : Option (List Int × Int) :=
  if i64B a0_6 = true ∧ i64B a0_7 = true then some (if msgRight ⟨a0_0, a0_1, a0_2, a0_3, a0_4, a0_5, a0_6, a0_7, a0_8⟩ = true then (msgForm ⟨a0_0, a0_1, a0_2, a0_3, a0_4, a0_5, a0_6, a0_7, a0_8⟩, 0) else ([], 1)) else none
set_option maxRecDepth 100000 in
set_option maxHeartbeats 2000000 in
theorem message_Encode.calls (a0_0 a0_1 a0_2 a0_3 a0_4 a0_5 a0_6 a0_7 a0_8 : Int) (r1 : List Int) (r2 : Int) (w : World) (h : message_Encode.f a0_0 a0_1 a0_2 a0_3 a0_4 a0_5 a0_6 a0_7 a0_8 = some (r1, r2)) :
    Calls Try.prog 29 #[.agg #[.int .i64 a0_0, .int .i64 a0_1, .int .i64 a0_2, .int .i64 a0_3, .int .i64 a0_4, .int .i64 a0_5, .int .i64 a0_6, .int .i64 a0_7, .int .i64 a0_8]] w fun e w' => ∃ v0_ : Value, e = .returned (.tuple #[v0_, .int .i64 r2]) ∧ Kd.R (Kd.int .u8) 5 w' w.heap.size (fun _ => True) v0_ r1 ∧ Below w.heap.size w w' := by
  unfold message_Encode.f at h
  by_cases hp : i64B a0_6 = true ∧ i64B a0_7 = true
  · rw [if_pos hp] at h
    have H := Option.some.inj h
    clear h
    have HRC : ∀ W : World, Calls Try.prog 32 #[.agg #[.int .i64 a0_0, .int .i64 a0_1, .int .i64 a0_2, .int .i64 a0_3, .int .i64 a0_4, .int .i64 a0_5, .int .i64 a0_6, .int .i64 a0_7, .int .i64 a0_8]] W fun e w' => e = .returned (.bool (msgRight ⟨a0_0, a0_1, a0_2, a0_3, a0_4, a0_5, a0_6, a0_7, a0_8⟩)) ∧ Below W.heap.size W w' := fun W => msgRight_calls ⟨a0_0, a0_1, a0_2, a0_3, a0_4, a0_5, a0_6, a0_7, a0_8⟩ W
    have hu29 := Try.underlying29
    have bx : Box9 (w.alloc (.cells #[.int .i64 a0_0, .int .i64 a0_1, .int .i64 a0_2, .int .i64 a0_3, .int .i64 a0_4, .int .i64 a0_5, .int .i64 a0_6, .int .i64 a0_7, .int .i64 a0_8] 29)) 29 w.heap.size a0_0 a0_1 a0_2 a0_3 a0_4 a0_5 a0_6 a0_7 a0_8 := blk_new w _
    have hb0 := below_alloc (Below.refl w.heap.size w) (.cells #[.int .i64 a0_0, .int .i64 a0_1, .int .i64 a0_2, .int .i64 a0_3, .int .i64 a0_4, .int .i64 a0_5, .int .i64 a0_6, .int .i64 a0_7, .int .i64 a0_8] 29)
    have BX := Aside0.mk bx
    have HB0 := Aside0.mk hb0
    have HP := Aside0.mk hp
    clear hb0 hp
    obtain ⟨c0, c1, c2, c3, c4, c5, c6, c7, c8⟩ := bx.cells
    clear bx
    by_cases hr : msgRight ⟨a0_0, a0_1, a0_2, a0_3, a0_4, a0_5, a0_6, a0_7, a0_8⟩ = true
    · rw [if_pos hr] at H
      obtain ⟨rfl, rfl⟩ := Prod.mk.inj H
      clear H
      have HR := Aside0.mk hr
      go_enter Try.func29, Try.ntmps29
      go_wp2_with fail
      refine (HRC _).mono ?_
      rintro e w1 ⟨rfl, hb⟩
      rw [HR.out]
      have BX1 := Aside0.mk (show Box9 w1 29 w.heap.size a0_0 a0_1 a0_2 a0_3 a0_4 a0_5 a0_6 a0_7 a0_8 from (hb.block _ (by simp)).trans BX.out)
      have HB1 := Aside0.mk (below_then HB0.out HB0.out.size hb)
      have HZ := Aside0.mk (show w.heap.size < w1.heap.size from by have := hb.size; simp at this; omega)
      clear hb c0 c1 c2 c3 c4 c5 c6 c7 c8 BX HB0
      have HK := Aside0.mk (WK.new HB1.out)
      have BX2 := Aside0.mk (show Box9 (w1.alloc (.cells #[.slice none 0 0] 39)) 29 w.heap.size a0_0 a0_1 a0_2 a0_3 a0_4 a0_5 a0_6 a0_7 a0_8 from blk_alloc BX1.out _)
      obtain ⟨c0, c1, c2, c3, c4, c5, c6, c7, c8⟩ := BX2.out.cells
      go_wp2_with fail
      have HG := Aside0.mk (show w.heap.size < w1.heap.size from HZ.out)
      clear HZ BX1 HB1
      generalize hg : w1.heap.size = g at *
      generalize (w1.alloc (.cells #[.slice none 0 0] 39)) = W2 at *
      clear hg
      have H94 : Aside0 (Calls Try.prog 94 #[.pointer (some ⟨g, 0, none⟩), .slice (some ⟨W2.heap.size, 0, none⟩) 3 3] (W2.alloc (.cells #[.int .u8 (IntKind.u8.wrap a0_0), .int .u8 (IntKind.u8.wrap a0_1), .int .u8 (IntKind.u8.wrap a0_8)] 5)).drew fun e w' => e = .returned (.pointer (some ⟨g, 0, none⟩)) ∧ WK w w' g ([] ++ [IntKind.u8.wrap a0_0, IntKind.u8.wrap a0_1, IntKind.u8.wrap a0_8]) ∧ KeepT (W2.alloc (.cells #[.int .u8 (IntKind.u8.wrap a0_0), .int .u8 (IntKind.u8.wrap a0_1), .int .u8 (IntKind.u8.wrap a0_8)] 5)).drew w' g) :=
        ⟨(HK.out.alloc (.cells (nums .u8 [IntKind.u8.wrap a0_0, IntKind.u8.wrap a0_1, IntKind.u8.wrap a0_8]).toArray 5)).drew.raw [IntKind.u8.wrap a0_0, IntKind.u8.wrap a0_1, IntKind.u8.wrap a0_8] _ 3 (lit_C W2 [IntKind.u8.wrap a0_0, IntKind.u8.wrap a0_1, IntKind.u8.wrap a0_8] (by simp)) (by simp) (by simp)⟩
      have BX3 := Aside0.mk (show Box9 (W2.alloc (.cells #[.int .u8 (IntKind.u8.wrap a0_0), .int .u8 (IntKind.u8.wrap a0_1), .int .u8 (IntKind.u8.wrap a0_8)] 5)).drew 29 w.heap.size a0_0 a0_1 a0_2 a0_3 a0_4 a0_5 a0_6 a0_7 a0_8 from blk_alloc BX2.out _)
      have R2 : 0 ≤ IntKind.u64.wrap a0_2 ∧ IntKind.u64.wrap a0_2 < 18446744073709551616 := wrap_u64_range _
      have R3 : 0 ≤ IntKind.u64.wrap a0_3 ∧ IntKind.u64.wrap a0_3 < 18446744073709551616 := wrap_u64_range _
      have HR2 := Aside0.mk R2
      have HR3 := Aside0.mk R3
      clear R2 R3
      have hr3 := HR.out
      simp only [msgRight, Bool.and_eq_true, within_iff] at hr3
      have hp3 := HP.out
      simp only [i64B, within_iff] at hp3
      have HL4 : Aside0 (-9223372036854775808 ≤ a0_4 ∧ a0_4 ≤ 9223372036854775807) := ⟨by omega⟩
      have HL5 : Aside0 (-9223372036854775808 ≤ a0_5 ∧ a0_5 ≤ 9223372036854775807) := ⟨by omega⟩
      have HL6 : Aside0 (-9223372036854775808 ≤ a0_6 ∧ a0_6 ≤ 9223372036854775807) := ⟨hp3.1⟩
      have HL7 : Aside0 (-9223372036854775808 ≤ a0_7 ∧ a0_7 ≤ 9223372036854775807) := ⟨hp3.2⟩
      clear hr3 hp3
      go_region_held3 (fun w' => w'.cell? ⟨w.heap.size, 0, none⟩ = some (.int .i64 a0_0) ∧ w'.cell? ⟨w.heap.size, 1, none⟩ = some (.int .i64 a0_1) ∧ w'.cell? ⟨w.heap.size, 8, none⟩ = some (.int .i64 a0_8) ∧ w'.cell? ⟨w.heap.size, 2, none⟩ = some (.int .i64 a0_2) ∧ w'.cell? ⟨w.heap.size, 3, none⟩ = some (.int .i64 a0_3)) (first | (refine ⟨?_, ?_, ?_, ?_, ?_⟩ <;> assumption) | go_keep)
        (first | (go_at_call 94; refine H94.out.mono ?_; rintro e w3 ⟨rfl, hk3, kt⟩; have HK3 := Aside0.mk hk3; have BX4 := Aside0.mk (show Box9 w3 29 w.heap.size a0_0 a0_1 a0_2 a0_3 a0_4 a0_5 a0_6 a0_7 a0_8 from kt _ _ _ BX3.out (by decide) (by have := HG.out; omega)); obtain ⟨d0, d1, d2, d3, d4, d5, d6, d7, d8⟩ := BX4.out.cells; clear hk3 kt) | (go_at_call 36; (with_reducible refine (HK4.out.num (IntKind.u64.wrap a0_3) HR3.out.1 HR3.out.2 (by have := numForm_ten _ HR2.out.2; simp; omega)).mono ?_); rintro e w5 ⟨rfl, hk5, kt⟩; have HK5 := Aside0.mk hk5; have BX6 := Aside0.mk (show Box9 w5 29 w.heap.size a0_0 a0_1 a0_2 a0_3 a0_4 a0_5 a0_6 a0_7 a0_8 from kt _ _ _ BX5.out (by decide) (by have := HG.out; omega)); obtain ⟨f0, f1, f2, f3, f4, f5, f6, f7, f8⟩ := BX6.out.cells; clear hk5 kt) | (go_at_call 36; (with_reducible refine (HK3.out.num (IntKind.u64.wrap a0_2) HR2.out.1 HR2.out.2 (by simp)).mono ?_); rintro e w4 ⟨rfl, hk4, kt⟩; have HK4 := Aside0.mk hk4; have BX5 := Aside0.mk (show Box9 w4 29 w.heap.size a0_0 a0_1 a0_2 a0_3 a0_4 a0_5 a0_6 a0_7 a0_8 from kt _ _ _ BX4.out (by decide) (by have := HG.out; omega)); obtain ⟨e0, e1, e2, e3, e4, e5, e6, e7, e8⟩ := BX5.out.cells; clear hk4 kt))
      have hmf : ∀ (fn : Fn) (first cap : Array Value) (w : World), (Instr.makeFunc fn first cap).run Try.prog w = .ok (.func fn first cap) w := fun _ _ _ _ => rfl
      have i0 : ∀ w, (Instr.index 124 (.agg #[.int .i64 a0_4, .int .i64 a0_5, .int .i64 a0_6, .int .i64 a0_7]) (.int .i64 0)).run Try.prog w = .ok (.int .i64 a0_4) w := fun _ => by kernel_rfl
      have i1 : ∀ w, (Instr.index 124 (.agg #[.int .i64 a0_4, .int .i64 a0_5, .int .i64 a0_6, .int .i64 a0_7]) (.int .i64 1)).run Try.prog w = .ok (.int .i64 a0_5) w := fun _ => by kernel_rfl
      have i2 : ∀ w, (Instr.index 124 (.agg #[.int .i64 a0_4, .int .i64 a0_5, .int .i64 a0_6, .int .i64 a0_7]) (.int .i64 2)).run Try.prog w = .ok (.int .i64 a0_6) w := fun _ => by kernel_rfl
      have i3 : ∀ w, (Instr.index 124 (.agg #[.int .i64 a0_4, .int .i64 a0_5, .int .i64 a0_6, .int .i64 a0_7]) (.int .i64 3)).run Try.prog w = .ok (.int .i64 a0_7) w := fun _ => by kernel_rfl
      go_wp2
      refine wp_loop_rounds 5 ?_
      rw [rounds_succ]
      go_wp2_with fail
      refine (HK5.out.int a0_4 HL4.out.1 HL4.out.2 (by have := numForm_ten _ HR2.out.2; have := numForm_ten _ HR3.out.2; simp [intForm_length]; omega)).mono ?_
      rintro e w6 ⟨rfl, hk, kt⟩
      have HK6 := Aside0.mk hk
      clear hk kt
      go_wp2
      rw [rounds_succ]
      go_wp2_with fail
      refine (HK6.out.int a0_5 HL5.out.1 HL5.out.2 (by have := numForm_ten _ HR2.out.2; have := numForm_ten _ HR3.out.2; simp [intForm_length]; omega)).mono ?_
      rintro e w7 ⟨rfl, hk, kt⟩
      have HK7 := Aside0.mk hk
      clear hk kt
      go_wp2
      rw [rounds_succ]
      go_wp2_with fail
      refine (HK7.out.int a0_6 HL6.out.1 HL6.out.2 (by have := numForm_ten _ HR2.out.2; have := numForm_ten _ HR3.out.2; simp [intForm_length]; omega)).mono ?_
      rintro e w8 ⟨rfl, hk, kt⟩
      have HK8 := Aside0.mk hk
      clear hk kt
      go_wp2
      rw [rounds_succ]
      go_wp2_with fail
      refine (HK8.out.int a0_7 HL7.out.1 HL7.out.2 (by have := numForm_ten _ HR2.out.2; have := numForm_ten _ HR3.out.2; simp [intForm_length]; omega)).mono ?_
      rintro e w9 ⟨rfl, hk, kt⟩
      have HK9 := Aside0.mk hk
      clear hk kt
      go_wp2
      rw [rounds_succ]
      go_wp2_with fail
      refine (HK9.out.bytes (by have := numForm_ten _ HR2.out.2; have := numForm_ten _ HR3.out.2; simp [intForm_length]; omega)).mono ?_
      rintro e w10 ⟨v, rfl, hR, hB, _⟩
      have HRR := Aside0.mk hR
      have HBB := Aside0.mk hB
      clear hR hB
      go_wp2
      go_ret2
      refine ⟨_, rfl, ?_, HBB.out⟩
      have hr2 := HR.out
      simp only [msgRight, Bool.and_eq_true, within_iff] at hr2
      have e0 : IntKind.u8.wrap a0_0 = a0_0 := by rw [IntKind.wrap_u8]; omega
      have e1 : IntKind.u8.wrap a0_1 = a0_1 := by rw [IntKind.wrap_u8]; omega
      have e8 : IntKind.u8.wrap a0_8 = a0_8 := by rw [IntKind.wrap_u8]; omega
      have e2 : IntKind.u64.wrap a0_2 = a0_2 := by rw [wrap_u64]; omega
      have e3 : IntKind.u64.wrap a0_3 = a0_3 := by rw [wrap_u64]; omega
      have h := HRR.out
      rw [e0, e1, e8, e2, e3] at h
      exact h
    · rw [if_neg hr] at H
      obtain ⟨rfl, rfl⟩ := Prod.mk.inj H
      clear H
      have hr2 : msgRight ⟨a0_0, a0_1, a0_2, a0_3, a0_4, a0_5, a0_6, a0_7, a0_8⟩ = false := by simpa using hr
      have HR := Aside0.mk hr2
      clear hr hr2
      go_enter Try.func29, Try.ntmps29
      go_wp2_with fail
      refine (HRC _).mono ?_
      rintro e w1 ⟨rfl, hb⟩
      rw [HR.out]
      have HB1 := Aside0.mk (below_then HB0.out HB0.out.size hb)
      clear hb c0 c1 c2 c3 c4 c5 c6 c7 c8 BX HB0
      go_wp2
      go_ret2
      exact ⟨_, rfl, Kd.R_nil _ _ _ _ _, HB1.out⟩
  · rw [if_neg hp] at h
    cases h
end Go.Proofs.Ytalpemoodollpaa.P
-- Printed by hookprint.py (the session's own program, over the kit's print.py): checked by Lean like any text.
namespace Go.Proofs.Ytalpemoodollpaa.P
open Go.RowKit Go.Proofs.YtalpemoodollpaaW.PrintWords Go.Proofs.YtalpemoodollpaaW.PrintLast Go.Proofs.YtalpemoodollpaaW.PrintMore
attribute [local go_sem] max2_int min2_int max_two min_two max_three min_three max_four min_four   -- for this text's walks alone
set_option linter.unusedVariables false
set_option linter.unusedSimpArgs false

/-! ### message_Is: function 34 -/
def message_Is.f (a0_0 : Int) (a0_1 : Int) (a0_2 : Int) (a0_3 : Int) (a0_4 : Int) (a0_5 : Int) (a0_6 : Int) (a0_7 : Int) (a0_8 : Int) (a1 : Int) (a2 : Int) : Option (Bool) := if a0_0 = a1 then (some (a0_1 == a2)) else (some false)
set_option maxHeartbeats 8000000 in
set_option maxRecDepth 100000 in
theorem message_Is.calls (a0_0 : Int) (a0_1 : Int) (a0_2 : Int) (a0_3 : Int) (a0_4 : Int) (a0_5 : Int) (a0_6 : Int) (a0_7 : Int) (a0_8 : Int) (a1 : Int) (a2 : Int) (r : Bool) (w : World) (h : message_Is.f a0_0 a0_1 a0_2 a0_3 a0_4 a0_5 a0_6 a0_7 a0_8 a1 a2 = some r) :
    Calls Try.prog 34 #[.agg #[.int .i64 a0_0, .int .i64 a0_1, .int .i64 a0_2, .int .i64 a0_3, .int .i64 a0_4, .int .i64 a0_5, .int .i64 a0_6, .int .i64 a0_7, .int .i64 a0_8], .int .i64 a1, .int .i64 a2] w fun e w' => e = .returned (.bool r) ∧ Below w.heap.size w w' := by
  have hu29 := Try.underlying29
  have HB := Aside0.mk (Below.refl w.heap.size w)
  have H : (if a0_0 = a1 then (some (a0_1 == a2)) else (some false)) = some r := h
  clear h
  by_cases c4 : a0_0 = a1
  · rw [if_pos c4] at H
    have c4b0 : (a0_0 == a1) = true := beq_iff_eq.mpr c4
    have c4b1 : (a0_0 != a1) = false := bne_eq_false_iff_eq.mpr c4
    clear c4
    obtain rfl := Option.some.inj H
    go_enter Try.func34, Try.ntmps34
    go_wp2_with (first | ((with_reducible refine gate_dst (N := 3) rfl ?_); refine box_event ?hg (N := 3) ?hd (cs := #[.int .i64 a0_0, .int .i64 a0_1, .int .i64 a0_2, .int .i64 a0_3, .int .i64 a0_4, .int .i64 a0_5, .int .i64 a0_6, .int .i64 a0_7, .int .i64 a0_8]) (t := 29) ?hr ?_; (case hd => rfl); (case hg => rfl); (case hr => first | (go_simp; done) | (go_simp; rfl)); intro gb208 hg w5 hbox hb; have n0_ := Aside0.mk (below_step (by repeat (first | (with_reducible first | exact HB.out | apply below_alloc | apply pw_below_drewN | apply below_drew1) | exact HB.out)) hb); have n1_ := Aside0.mk (hbox); have n2_ := Aside0.mk ((by rw [hg]; exact (below_size (by repeat (first | (with_reducible first | exact HB.out | apply below_alloc | apply pw_below_drewN | apply below_drew1) | exact HB.out))) : w.heap.size ≤ gb208)); have n3_ := Aside0.mk ((by rw [hg]; exact (below_size (by repeat (first | (with_reducible first | exact HB.out | apply below_alloc | apply pw_below_drewN | apply below_drew1) | exact HB.out))) : w.heap.size ≤ gb208)); clear HB; have HB := n0_; have BK208 := n1_; have GW208 := n2_; have GE208 := n3_; clear n0_ n1_ n2_ n3_; clear hb hbox hg; have hcz6_0 : w5.cell? ⟨gb208, 0, none⟩ = some (.int .i64 a0_0) := (blk_cell BK208.out 0).trans rfl; have hcz6_1 : w5.cell? ⟨gb208, 1, none⟩ = some (.int .i64 a0_1) := (blk_cell BK208.out 1).trans rfl; have hcz6_2 : w5.cell? ⟨gb208, 2, none⟩ = some (.int .i64 a0_2) := (blk_cell BK208.out 2).trans rfl; have hcz6_3 : w5.cell? ⟨gb208, 3, none⟩ = some (.int .i64 a0_3) := (blk_cell BK208.out 3).trans rfl; have hcz6_4 : w5.cell? ⟨gb208, 4, none⟩ = some (.int .i64 a0_4) := (blk_cell BK208.out 4).trans rfl; have hcz6_5 : w5.cell? ⟨gb208, 5, none⟩ = some (.int .i64 a0_5) := (blk_cell BK208.out 5).trans rfl; have hcz6_6 : w5.cell? ⟨gb208, 6, none⟩ = some (.int .i64 a0_6) := (blk_cell BK208.out 6).trans rfl; have hcz6_7 : w5.cell? ⟨gb208, 7, none⟩ = some (.int .i64 a0_7) := (blk_cell BK208.out 7).trans rfl; have hcz6_8 : w5.cell? ⟨gb208, 8, none⟩ = some (.int .i64 a0_8) := (blk_cell BK208.out 8).trans rfl; have hfz6_0 := blk_frozen BK208.out 0; have hfz6_1 := blk_frozen BK208.out 1; have hfz6_2 := blk_frozen BK208.out 2; have hfz6_3 := blk_frozen BK208.out 3; have hfz6_4 := blk_frozen BK208.out 4; have hfz6_5 := blk_frozen BK208.out 5; have hfz6_6 := blk_frozen BK208.out 6; have hfz6_7 := blk_frozen BK208.out 7; have hfz6_8 := blk_frozen BK208.out 8))
    go_ret
    exact ⟨by first | rfl | (simp [errW_none, errW_some] <;> rfl) | (simp [*, errW_none, errW_some] <;> rfl), by repeat (first | (with_reducible first | exact HB.out | apply below_alloc | apply pw_below_drewN | apply below_drew1 | refine below_set ?_ GE208.out) | exact HB.out)⟩
  · rw [if_neg c4] at H
    have c4b0 : (a0_0 == a1) = false := beq_eq_false_iff_ne.mpr c4
    have c4b1 : (a0_0 != a1) = true := bne_iff_ne.mpr c4
    obtain rfl := Option.some.inj H
    go_enter Try.func34, Try.ntmps34
    go_wp2_with (first | ((with_reducible refine gate_dst (N := 3) rfl ?_); refine box_event ?hg (N := 3) ?hd (cs := #[.int .i64 a0_0, .int .i64 a0_1, .int .i64 a0_2, .int .i64 a0_3, .int .i64 a0_4, .int .i64 a0_5, .int .i64 a0_6, .int .i64 a0_7, .int .i64 a0_8]) (t := 29) ?hr ?_; (case hd => rfl); (case hg => rfl); (case hr => first | (go_simp; done) | (go_simp; rfl)); intro gb208 hg w7 hbox hb; have n0_ := Aside0.mk (below_step (by repeat (first | (with_reducible first | exact HB.out | apply below_alloc | apply pw_below_drewN | apply below_drew1) | exact HB.out)) hb); have n1_ := Aside0.mk (hbox); have n2_ := Aside0.mk ((by rw [hg]; exact (below_size (by repeat (first | (with_reducible first | exact HB.out | apply below_alloc | apply pw_below_drewN | apply below_drew1) | exact HB.out))) : w.heap.size ≤ gb208)); have n3_ := Aside0.mk ((by rw [hg]; exact (below_size (by repeat (first | (with_reducible first | exact HB.out | apply below_alloc | apply pw_below_drewN | apply below_drew1) | exact HB.out))) : w.heap.size ≤ gb208)); clear HB; have HB := n0_; have BK208 := n1_; have GW208 := n2_; have GE208 := n3_; clear n0_ n1_ n2_ n3_; clear hb hbox hg; have hcz8_0 : w7.cell? ⟨gb208, 0, none⟩ = some (.int .i64 a0_0) := (blk_cell BK208.out 0).trans rfl; have hcz8_1 : w7.cell? ⟨gb208, 1, none⟩ = some (.int .i64 a0_1) := (blk_cell BK208.out 1).trans rfl; have hcz8_2 : w7.cell? ⟨gb208, 2, none⟩ = some (.int .i64 a0_2) := (blk_cell BK208.out 2).trans rfl; have hcz8_3 : w7.cell? ⟨gb208, 3, none⟩ = some (.int .i64 a0_3) := (blk_cell BK208.out 3).trans rfl; have hcz8_4 : w7.cell? ⟨gb208, 4, none⟩ = some (.int .i64 a0_4) := (blk_cell BK208.out 4).trans rfl; have hcz8_5 : w7.cell? ⟨gb208, 5, none⟩ = some (.int .i64 a0_5) := (blk_cell BK208.out 5).trans rfl; have hcz8_6 : w7.cell? ⟨gb208, 6, none⟩ = some (.int .i64 a0_6) := (blk_cell BK208.out 6).trans rfl; have hcz8_7 : w7.cell? ⟨gb208, 7, none⟩ = some (.int .i64 a0_7) := (blk_cell BK208.out 7).trans rfl; have hcz8_8 : w7.cell? ⟨gb208, 8, none⟩ = some (.int .i64 a0_8) := (blk_cell BK208.out 8).trans rfl; have hfz8_0 := blk_frozen BK208.out 0; have hfz8_1 := blk_frozen BK208.out 1; have hfz8_2 := blk_frozen BK208.out 2; have hfz8_3 := blk_frozen BK208.out 3; have hfz8_4 := blk_frozen BK208.out 4; have hfz8_5 := blk_frozen BK208.out 5; have hfz8_6 := blk_frozen BK208.out 6; have hfz8_7 := blk_frozen BK208.out 7; have hfz8_8 := blk_frozen BK208.out 8))
    go_ret
    exact ⟨by first | rfl | (simp [errW_none, errW_some] <;> rfl) | (simp [*, errW_none, errW_some] <;> rfl), by repeat (first | (with_reducible first | exact HB.out | apply below_alloc | apply pw_below_drewN | apply below_drew1 | refine below_set ?_ GE208.out) | exact HB.out)⟩

end Go.Proofs.Ytalpemoodollpaa.P
-- Printed by hookprint.py (the session's own program, over the kit's print.py): checked by Lean like any text.
namespace Go.Proofs.Ytalpemoodollpaa.P
open Go.RowKit Go.Proofs.YtalpemoodollpaaW.PrintWords Go.Proofs.YtalpemoodollpaaW.PrintLast Go.Proofs.YtalpemoodollpaaW.PrintMore
attribute [local go_sem] max2_int min2_int max_two min_two max_three min_three max_four min_four   -- for this text's walks alone
set_option linter.unusedVariables false
set_option linter.unusedSimpArgs false

/-! ### damperlaw06_alive: function 35 -/
def damperlaw06_alive.f  : Option (Bool) := (message_Encode.f 6 1 0 0 0 0 0 0 2).bind fun bt209 => (if bt209.2 = 0 then (if (bt209.1.length : Int) = 37 then (if 0 < (bt209.1.length : Int) then (if (rd bt209.1 0) = 6 then (if 2 < (bt209.1.length : Int) then (if (rd bt209.1 2) = 2 then ((message_Is.f 3 1 0 0 0 0 0 0 0 3 1).bind fun t215 => (some t215)) else (some false)) else (none)) else (some false)) else (none)) else (some false)) else (some false))
set_option maxHeartbeats 8000000 in
set_option maxRecDepth 100000 in
theorem damperlaw06_alive.calls  (r : Bool) (w : World) (h : damperlaw06_alive.f  = some r) :
    Calls Try.prog 35 #[] w fun e w' => e = .returned (.bool r) ∧ Below w.heap.size w w' := by
  have hu29 := Try.underlying29
  have HB := Aside0.mk (Below.refl w.heap.size w)
  have H : ((message_Encode.f 6 1 0 0 0 0 0 0 2).bind fun bt209 => (if bt209.2 = 0 then (if (bt209.1.length : Int) = 37 then (if 0 < (bt209.1.length : Int) then (if (rd bt209.1 0) = 6 then (if 2 < (bt209.1.length : Int) then (if (rd bt209.1 2) = 2 then ((message_Is.f 3 1 0 0 0 0 0 0 0 3 1).bind fun t215 => (some t215)) else (some false)) else (none)) else (some false)) else (none)) else (some false)) else (some false))) = some r := h
  clear h
  replace H := Option.bind_eq_some_iff.mp H
  obtain ⟨⟨t209, t212⟩, A10, H⟩ := H
  replace H : (if t212 = 0 then (if (t209.length : Int) = 37 then (if 0 < (t209.length : Int) then (if (rd t209 0) = 6 then (if 2 < (t209.length : Int) then (if (rd t209 2) = 2 then ((message_Is.f 3 1 0 0 0 0 0 0 0 3 1).bind fun t215 => (some t215)) else (some false)) else (none)) else (some false)) else (none)) else (some false)) else (some false)) = some r := H
  have A1 := Aside0.mk A10
  clear A10
  by_cases c2 : t212 = 0
  · rw [if_pos c2] at H
    have c2b0 : (t212 == 0) = true := beq_iff_eq.mpr c2
    have c2b1 : (t212 != 0) = false := bne_eq_false_iff_eq.mpr c2
    clear c2
    by_cases c3 : (t209.length : Int) = 37
    · rw [if_pos c3] at H
      have c3b0 : ((t209.length : Int) == 37) = true := beq_iff_eq.mpr c3
      have c3b1 : ((t209.length : Int) != 37) = false := bne_eq_false_iff_eq.mpr c3
      clear c3
      by_cases c4 : 0 < (t209.length : Int)
      · rw [if_pos c4] at H
        have c4b0 : decide (0 < (t209.length : Int)) = true := decide_eq_true c4
        have c4b1 : decide (0 < t209.length) = true := decide_eq_true (by omega)
        clear c4
        by_cases c5 : (rd t209 0) = 6
        · rw [if_pos c5] at H
          have c5b0 : ((rd t209 0) == 6) = true := beq_iff_eq.mpr c5
          have c5b1 : ((rd t209 0) != 6) = false := bne_eq_false_iff_eq.mpr c5
          clear c5
          by_cases c6 : 2 < (t209.length : Int)
          · rw [if_pos c6] at H
            have c6b0 : decide (2 < (t209.length : Int)) = true := decide_eq_true c6
            have c6b1 : decide (2 < t209.length) = true := decide_eq_true (by omega)
            clear c6
            by_cases c7 : (rd t209 2) = 2
            · rw [if_pos c7] at H
              have c7b0 : ((rd t209 2) == 2) = true := beq_iff_eq.mpr c7
              have c7b1 : ((rd t209 2) != 2) = false := bne_eq_false_iff_eq.mpr c7
              clear c7
              replace H := Option.bind_eq_some_iff.mp H
              obtain ⟨t215, A80, H⟩ := H
              replace H : (some t215) = some r := H
              have A8 := Aside0.mk A80
              clear A80
              obtain rfl := Option.some.inj H
              go_enter Try.func35, Try.ntmps35
              go_wp2_with (first | ((with_reducible refine gate_callee (f := 29) rfl ?_); refine goesL_ (some 5) rfl rfl Try.func29 (by kernel_rfl) rfl #[.agg #[.int .i64 6, .int .i64 1, .int .i64 0, .int .i64 0, .int .i64 0, .int .i64 0, .int .i64 0, .int .i64 0, .int .i64 2]] rfl (by (try simp only [List.map_toArray, List.map_cons, List.map_nil]); first | done | rfl | (simp only [List.length_drop, List.length_take]; rfl)) ?_; (with_reducible refine (message_Encode.calls 6 1 0 0 0 0 0 0 2 t209 t212 _ A1.out).mono ?_); rintro e w9 ⟨v210, rfl, ho0, hb⟩; refine ⟨_, rfl, ?_⟩; have n0_ := Aside0.mk (Kd.R_lower ho0 (below_size (by repeat (first | (with_reducible first | exact HB.out | apply below_alloc | apply pw_below_drewN | apply below_drew1) | exact HB.out)))); have n1_ := Aside0.mk (below_step (by repeat (first | (with_reducible first | exact HB.out | apply below_alloc | apply pw_below_drewN | apply below_drew1) | exact HB.out)) hb); clear HB; have HO211 := n0_; have HB := n1_; clear n0_ n1_; (try clear hb); (try clear hb2); (try clear hk); (try clear hi); (try clear ho0); obtain ⟨Ao10, co10, eo10⟩ := Kd.R_slice HO211.out; subst eo10; have p213 : 0 ≤ (0 : Int) := (by omega); have q213 : 0 < (t209.length : Int) := of_decide_eq_true (by first | (with_reducible assumption) | assumption); obtain ⟨ad213, e213, hx213_0⟩ := Kd.at_int (Kd.R_reads' HO211.out).2.2 0 p213 q213; cases e213; have qi213 : (0 < t209.length) = True := eq_true (by omega); (try rw [show ((0 : Int)).toNat = 0 from rfl] at hx213_0); (try rw [Addr.add_zero'] at hx213_0); replace p213 := eq_true p213; replace q213 := eq_true q213; have p214 : 0 ≤ (2 : Int) := (by omega); have q214 : 2 < (t209.length : Int) := of_decide_eq_true (by first | (with_reducible assumption) | assumption); obtain ⟨ad214, e214, hx214_0⟩ := Kd.at_int (Kd.R_reads' HO211.out).2.2 2 p214 q214; obtain rfl : ad213 = ad214 := (by injection e214); (try simp only [show (2 : Int).toNat = 2 from rfl, Nat.reduceMul, Nat.reduceEqDiff, Go.Addr.add, ↓reduceIte] at hx214_0); have qi214 : (2 < t209.length) = True := eq_true (by omega); (try rw [show ((2 : Int)).toNat = 2 from rfl] at hx214_0); replace p214 := eq_true p214; replace q214 := eq_true q214) | (go_at_call 34; (with_reducible refine (message_Is.calls 3 1 0 0 0 0 0 0 0 3 1 t215 _ A8.out).mono ?_); rintro e w11 ⟨rfl, hb⟩; have n0_ := Aside0.mk (Kd.R_below (by (with_reducible repeat (first | apply Kd.R_alloc | apply Kd.R_drewN | apply Kd.R_drew)); exact HO211.out) hb); have n1_ := Aside0.mk (below_step (by repeat (first | (with_reducible first | exact HB.out | apply below_alloc | apply pw_below_drewN | apply below_drew1) | exact HB.out)) hb); clear HO211; clear HB; have HO211 := n0_; have HB := n1_; clear n0_ n1_; (try clear hb); (try clear hb2); (try clear hk); (try clear hi)))
              go_ret
              exact ⟨by first | rfl | (simp [errW_none, errW_some] <;> rfl) | (simp [*, errW_none, errW_some] <;> rfl), by repeat (first | (with_reducible first | exact HB.out | apply below_alloc | apply pw_below_drewN | apply below_drew1) | exact HB.out)⟩
            · rw [if_neg c7] at H
              have c7b0 : ((rd t209 2) == 2) = false := beq_eq_false_iff_ne.mpr c7
              have c7b1 : ((rd t209 2) != 2) = true := bne_iff_ne.mpr c7
              obtain rfl := Option.some.inj H
              go_enter Try.func35, Try.ntmps35
              go_wp2_with (first | ((with_reducible refine gate_callee (f := 29) rfl ?_); refine goesL_ (some 5) rfl rfl Try.func29 (by kernel_rfl) rfl #[.agg #[.int .i64 6, .int .i64 1, .int .i64 0, .int .i64 0, .int .i64 0, .int .i64 0, .int .i64 0, .int .i64 0, .int .i64 2]] rfl (by (try simp only [List.map_toArray, List.map_cons, List.map_nil]); first | done | rfl | (simp only [List.length_drop, List.length_take]; rfl)) ?_; (with_reducible refine (message_Encode.calls 6 1 0 0 0 0 0 0 2 t209 t212 _ A1.out).mono ?_); rintro e w12 ⟨v210, rfl, ho0, hb⟩; refine ⟨_, rfl, ?_⟩; have n0_ := Aside0.mk (Kd.R_lower ho0 (below_size (by repeat (first | (with_reducible first | exact HB.out | apply below_alloc | apply pw_below_drewN | apply below_drew1) | exact HB.out)))); have n1_ := Aside0.mk (below_step (by repeat (first | (with_reducible first | exact HB.out | apply below_alloc | apply pw_below_drewN | apply below_drew1) | exact HB.out)) hb); clear HB; have HO211 := n0_; have HB := n1_; clear n0_ n1_; (try clear hb); (try clear hb2); (try clear hk); (try clear hi); (try clear ho0); obtain ⟨Ao13, co13, eo13⟩ := Kd.R_slice HO211.out; subst eo13; have p213 : 0 ≤ (0 : Int) := (by omega); have q213 : 0 < (t209.length : Int) := of_decide_eq_true (by first | (with_reducible assumption) | assumption); obtain ⟨ad213, e213, hx213_0⟩ := Kd.at_int (Kd.R_reads' HO211.out).2.2 0 p213 q213; cases e213; have qi213 : (0 < t209.length) = True := eq_true (by omega); (try rw [show ((0 : Int)).toNat = 0 from rfl] at hx213_0); (try rw [Addr.add_zero'] at hx213_0); replace p213 := eq_true p213; replace q213 := eq_true q213; have p214 : 0 ≤ (2 : Int) := (by omega); have q214 : 2 < (t209.length : Int) := of_decide_eq_true (by first | (with_reducible assumption) | assumption); obtain ⟨ad214, e214, hx214_0⟩ := Kd.at_int (Kd.R_reads' HO211.out).2.2 2 p214 q214; obtain rfl : ad213 = ad214 := (by injection e214); (try simp only [show (2 : Int).toNat = 2 from rfl, Nat.reduceMul, Nat.reduceEqDiff, Go.Addr.add, ↓reduceIte] at hx214_0); have qi214 : (2 < t209.length) = True := eq_true (by omega); (try rw [show ((2 : Int)).toNat = 2 from rfl] at hx214_0); replace p214 := eq_true p214; replace q214 := eq_true q214))
              go_ret
              exact ⟨by first | rfl | (simp [errW_none, errW_some] <;> rfl) | (simp [*, errW_none, errW_some] <;> rfl), by repeat (first | (with_reducible first | exact HB.out | apply below_alloc | apply pw_below_drewN | apply below_drew1) | exact HB.out)⟩
          · rw [if_neg c6] at H
            exact absurd H (by simp)
        · rw [if_neg c5] at H
          have c5b0 : ((rd t209 0) == 6) = false := beq_eq_false_iff_ne.mpr c5
          have c5b1 : ((rd t209 0) != 6) = true := bne_iff_ne.mpr c5
          obtain rfl := Option.some.inj H
          go_enter Try.func35, Try.ntmps35
          go_wp2_with (first | ((with_reducible refine gate_callee (f := 29) rfl ?_); refine goesL_ (some 5) rfl rfl Try.func29 (by kernel_rfl) rfl #[.agg #[.int .i64 6, .int .i64 1, .int .i64 0, .int .i64 0, .int .i64 0, .int .i64 0, .int .i64 0, .int .i64 0, .int .i64 2]] rfl (by (try simp only [List.map_toArray, List.map_cons, List.map_nil]); first | done | rfl | (simp only [List.length_drop, List.length_take]; rfl)) ?_; (with_reducible refine (message_Encode.calls 6 1 0 0 0 0 0 0 2 t209 t212 _ A1.out).mono ?_); rintro e w14 ⟨v210, rfl, ho0, hb⟩; refine ⟨_, rfl, ?_⟩; have n0_ := Aside0.mk (Kd.R_lower ho0 (below_size (by repeat (first | (with_reducible first | exact HB.out | apply below_alloc | apply pw_below_drewN | apply below_drew1) | exact HB.out)))); have n1_ := Aside0.mk (below_step (by repeat (first | (with_reducible first | exact HB.out | apply below_alloc | apply pw_below_drewN | apply below_drew1) | exact HB.out)) hb); clear HB; have HO211 := n0_; have HB := n1_; clear n0_ n1_; (try clear hb); (try clear hb2); (try clear hk); (try clear hi); (try clear ho0); obtain ⟨Ao15, co15, eo15⟩ := Kd.R_slice HO211.out; subst eo15; have p213 : 0 ≤ (0 : Int) := (by omega); have q213 : 0 < (t209.length : Int) := of_decide_eq_true (by first | (with_reducible assumption) | assumption); obtain ⟨ad213, e213, hx213_0⟩ := Kd.at_int (Kd.R_reads' HO211.out).2.2 0 p213 q213; cases e213; have qi213 : (0 < t209.length) = True := eq_true (by omega); (try rw [show ((0 : Int)).toNat = 0 from rfl] at hx213_0); (try rw [Addr.add_zero'] at hx213_0); replace p213 := eq_true p213; replace q213 := eq_true q213))
          go_ret
          exact ⟨by first | rfl | (simp [errW_none, errW_some] <;> rfl) | (simp [*, errW_none, errW_some] <;> rfl), by repeat (first | (with_reducible first | exact HB.out | apply below_alloc | apply pw_below_drewN | apply below_drew1) | exact HB.out)⟩
      · rw [if_neg c4] at H
        exact absurd H (by simp)
    · rw [if_neg c3] at H
      have c3b0 : ((t209.length : Int) == 37) = false := beq_eq_false_iff_ne.mpr c3
      have c3b1 : ((t209.length : Int) != 37) = true := bne_iff_ne.mpr c3
      obtain rfl := Option.some.inj H
      go_enter Try.func35, Try.ntmps35
      go_wp2_with (first | ((with_reducible refine gate_callee (f := 29) rfl ?_); refine goesL_ (some 5) rfl rfl Try.func29 (by kernel_rfl) rfl #[.agg #[.int .i64 6, .int .i64 1, .int .i64 0, .int .i64 0, .int .i64 0, .int .i64 0, .int .i64 0, .int .i64 0, .int .i64 2]] rfl (by (try simp only [List.map_toArray, List.map_cons, List.map_nil]); first | done | rfl | (simp only [List.length_drop, List.length_take]; rfl)) ?_; (with_reducible refine (message_Encode.calls 6 1 0 0 0 0 0 0 2 t209 t212 _ A1.out).mono ?_); rintro e w16 ⟨v210, rfl, ho0, hb⟩; refine ⟨_, rfl, ?_⟩; have n0_ := Aside0.mk (Kd.R_lower ho0 (below_size (by repeat (first | (with_reducible first | exact HB.out | apply below_alloc | apply pw_below_drewN | apply below_drew1) | exact HB.out)))); have n1_ := Aside0.mk (below_step (by repeat (first | (with_reducible first | exact HB.out | apply below_alloc | apply pw_below_drewN | apply below_drew1) | exact HB.out)) hb); clear HB; have HO211 := n0_; have HB := n1_; clear n0_ n1_; (try clear hb); (try clear hb2); (try clear hk); (try clear hi); (try clear ho0); obtain ⟨Ao17, co17, eo17⟩ := Kd.R_slice HO211.out; subst eo17))
      go_ret
      exact ⟨by first | rfl | (simp [errW_none, errW_some] <;> rfl) | (simp [*, errW_none, errW_some] <;> rfl), by repeat (first | (with_reducible first | exact HB.out | apply below_alloc | apply pw_below_drewN | apply below_drew1) | exact HB.out)⟩
  · rw [if_neg c2] at H
    have c2b0 : (t212 == 0) = false := beq_eq_false_iff_ne.mpr c2
    have c2b1 : (t212 != 0) = true := bne_iff_ne.mpr c2
    obtain rfl := Option.some.inj H
    go_enter Try.func35, Try.ntmps35
    go_wp2_with (first | ((with_reducible refine gate_callee (f := 29) rfl ?_); refine goesL_ (some 5) rfl rfl Try.func29 (by kernel_rfl) rfl #[.agg #[.int .i64 6, .int .i64 1, .int .i64 0, .int .i64 0, .int .i64 0, .int .i64 0, .int .i64 0, .int .i64 0, .int .i64 2]] rfl (by (try simp only [List.map_toArray, List.map_cons, List.map_nil]); first | done | rfl | (simp only [List.length_drop, List.length_take]; rfl)) ?_; (with_reducible refine (message_Encode.calls 6 1 0 0 0 0 0 0 2 t209 t212 _ A1.out).mono ?_); rintro e w18 ⟨v210, rfl, ho0, hb⟩; refine ⟨_, rfl, ?_⟩; have n0_ := Aside0.mk (Kd.R_lower ho0 (below_size (by repeat (first | (with_reducible first | exact HB.out | apply below_alloc | apply pw_below_drewN | apply below_drew1) | exact HB.out)))); have n1_ := Aside0.mk (below_step (by repeat (first | (with_reducible first | exact HB.out | apply below_alloc | apply pw_below_drewN | apply below_drew1) | exact HB.out)) hb); clear HB; have HO211 := n0_; have HB := n1_; clear n0_ n1_; (try clear hb); (try clear hb2); (try clear hk); (try clear hi); (try clear ho0)))
    go_ret
    exact ⟨by first | rfl | (simp [errW_none, errW_some] <;> rfl) | (simp [*, errW_none, errW_some] <;> rfl), by repeat (first | (with_reducible first | exact HB.out | apply below_alloc | apply pw_below_drewN | apply below_drew1) | exact HB.out)⟩

end Go.Proofs.Ytalpemoodollpaa.P
-- Printed by hookprint.py (the session's own program, over the kit's print.py): checked by Lean like any text.
namespace Go.Proofs.Ytalpemoodollpaa.P
open Go.RowKit Go.Proofs.YtalpemoodollpaaW.PrintWords Go.Proofs.YtalpemoodollpaaW.PrintLast Go.Proofs.YtalpemoodollpaaW.PrintMore
attribute [local go_sem] max2_int min2_int max_two min_two max_three min_three max_four min_four   -- for this text's walks alone
set_option linter.unusedVariables false
set_option linter.unusedSimpArgs false

theorem eqA29 (d : Nat) (w : World) (x0 y0 : Int) (x1 y1 : Int) (x2 y2 : Int) (x3 y3 : Int) (x4 y4 : Int) (x5 y5 : Int) (x6 y6 : Int) (x7 y7 : Int) (x8 y8 : Int) :
    (Op.equalIn (d + 2) 29 (.agg #[.int .i64 x0, .int .i64 x1, .int .i64 x2, .int .i64 x3, .int .i64 x4, .int .i64 x5, .int .i64 x6, .int .i64 x7, .int .i64 x8]) (.agg #[.int .i64 y0, .int .i64 y1, .int .i64 y2, .int .i64 y3, .int .i64 y4, .int .i64 y5, .int .i64 y6, .int .i64 y7, .int .i64 y8])).run Try.prog w = .ok (x0 == y0 && (x1 == y1 && (x2 == y2 && (x3 == y3 && (x4 == y4 && (x5 == y5 && (x6 == y6 && (x7 == y7 && (x8 == y8))))))))) w := by
  refine eqA_of Try.underlying29 (by kernel_rfl) ?_
  refine eqf_cons (by rfl) (by go_simp; rfl) (by go_simp; rfl) (by go_simp) ?_
  refine eqf_cons (by rfl) (by go_simp; rfl) (by go_simp; rfl) (by go_simp) ?_
  refine eqf_cons (by rfl) (by go_simp; rfl) (by go_simp; rfl) (by go_simp) ?_
  refine eqf_cons (by rfl) (by go_simp; rfl) (by go_simp; rfl) (by go_simp) ?_
  refine eqf_cons (by rfl) (by go_simp; rfl) (by go_simp; rfl) (by go_simp) ?_
  refine eqf_cons (by rfl) (by go_simp; rfl) (by go_simp; rfl) (by go_simp) ?_
  refine eqf_cons (by rfl) (by go_simp; rfl) (by go_simp; rfl) (by go_simp) ?_
  refine eqf_cons (by rfl) (by go_simp; rfl) (by go_simp; rfl) (by go_simp) ?_
  exact eqf_last (by rfl) (by go_simp; rfl) (by go_simp; rfl) (by go_simp)
end Go.Proofs.Ytalpemoodollpaa.P
-- Printed by hookprint.py (the session's own program, over the kit's print.py): checked by Lean like any text.
namespace Go.Proofs.Ytalpemoodollpaa.P
open Go.RowKit Go.Proofs.YtalpemoodollpaaW.PrintWords Go.Proofs.YtalpemoodollpaaW.PrintLast Go.Proofs.YtalpemoodollpaaW.PrintMore
attribute [local go_sem] max2_int min2_int max_two min_two max_three min_three max_four min_four   -- for this text's walks alone
set_option linter.unusedVariables false
set_option linter.unusedSimpArgs false

attribute [local go_sem high] eqA29
/-! ### damperref06_Lists: function 59 -/
def damperref06_Lists.l0 : Nat → List (S29) → List (S29) → Int → Option (Bool)
  | 0, _, _, _ => none
  | k + 1, x0, x1, x5 => if x5 < (x0.length : Int) then (if 0 ≤ x5 then (if x5 < (x1.length : Int) then (if (!(((rd_T29 x0 x5).f0) == ((rd_T29 x1 x5).f0)) || (!(((rd_T29 x0 x5).f1) == ((rd_T29 x1 x5).f1)) || (!(((rd_T29 x0 x5).f2) == ((rd_T29 x1 x5).f2)) || (!(((rd_T29 x0 x5).f3) == ((rd_T29 x1 x5).f3)) || (!(((rd_T29 x0 x5).f4) == ((rd_T29 x1 x5).f4)) || (!(((rd_T29 x0 x5).f5) == ((rd_T29 x1 x5).f5)) || (!(((rd_T29 x0 x5).f6) == ((rd_T29 x1 x5).f6)) || (!(((rd_T29 x0 x5).f7) == ((rd_T29 x1 x5).f7)) || (!(((rd_T29 x0 x5).f8) == ((rd_T29 x1 x5).f8))))))))))) = true then (some false) else (damperref06_Lists.l0 k x0 x1 (wrap64 (x5 + 1)))) else (none)) else (none)) else (some true)
def damperref06_Lists.f (k : Nat) (l0 : List (S29)) (l1 : List (S29)) : Option (Bool) := if (l0.length : Int) = (l1.length : Int) then (damperref06_Lists.l0 k l0 l1 0) else (some false)
theorem damperref06_Lists.mono_l : ∀ k, (∀ y0 y1 y2, LeO (damperref06_Lists.l0 k y0 y1 y2) (damperref06_Lists.l0 (k + 1) y0 y1 y2))
  | 0 => fun _ _ _ r h => by simp [damperref06_Lists.l0] at h
  | k + 1 => by
    have ih0 := damperref06_Lists.mono_l k
    · intro y0 y1 y2
      unfold damperref06_Lists.l0
      repeat' first
      | (with_reducible exact ih0 _ _ _)
      | (with_reducible exact LeO.refl _)
      | (with_reducible exact LeO.none _)
      | (with_reducible refine LeO.ite ?_ ?_)
      | (with_reducible refine LeO.bind ?_ (fun _ => ?_))
      | exact ih0 _ _ _
      | exact LeO.none _
      | refine LeO.ite ?_ ?_
      | refine LeO.bind ?_ (fun _ => ?_)
theorem damperref06_Lists.mono : ∀ a0 a1 k, LeO (damperref06_Lists.f k a0 a1) (damperref06_Lists.f (k + 1) a0 a1) := by
  intro a0 a1 k
  have ih0 := damperref06_Lists.mono_l k
  unfold damperref06_Lists.f
  repeat' first
      | (with_reducible exact ih0 _ _ _)
      | (with_reducible exact LeO.refl _)
      | (with_reducible exact LeO.none _)
      | (with_reducible refine LeO.ite ?_ ?_)
      | (with_reducible refine LeO.bind ?_ (fun _ => ?_))
      | exact ih0 _ _ _
      | exact LeO.none _
      | refine LeO.ite ?_ ?_
      | refine LeO.bind ?_ (fun _ => ?_)
set_option maxHeartbeats 8000000 in
set_option maxRecDepth 100000 in
theorem damperref06_Lists.calls (k : Nat) (A0 : Option Addr) (c0 : Nat) (l0 : List (S29)) (A1 : Option Addr) (c1 : Nat) (l1 : List (S29)) (r : Bool) (w : World) (hr0 : Kd.C k29 w A0 l0.length l0) (hc0 : l0.length ≤ c0) (hr1 : Kd.C k29 w A1 l1.length l1) (hc1 : l1.length ≤ c1) (h : damperref06_Lists.f k l0 l1 = some r) :
    Calls Try.prog 59 #[.slice A0 l0.length c0, .slice A1 l1.length c1] w fun e w' => e = .returned (.bool r) ∧ Drawn0 w w' := by
  have hu29 := Try.underlying29
  have HR0 := Aside0.mk hr0
  have HC0 := Aside0.mk hc0
  clear hr0 hc0
  have HR1 := Aside0.mk hr1
  have HC1 := Aside0.mk hc1
  clear hr1 hc1
  have H : (if (l0.length : Int) = (l1.length : Int) then (damperref06_Lists.l0 k l0 l1 0) else (some false)) = some r := h
  clear h
  by_cases c3 : (l0.length : Int) = (l1.length : Int)
  · rw [if_pos c3] at H
    have c3b0 : ((l0.length : Int) == (l1.length : Int)) = true := beq_iff_eq.mpr c3
    have c3b1 : ((l0.length : Int) != (l1.length : Int)) = false := bne_eq_false_iff_eq.mpr c3
    have c3b2 : (l0.length == l1.length) = true := by first | simpa using c3 | (simp at c3 ⊢; omega)
    clear c3
    have H' := Aside0.mk H
    clear H
    go_enter Try.func59, Try.ntmps59
    go_wp2
    repeat (go_quiet (fail); try go_wp2)
    go_loopg [5] k (fun kq v5 w' => ∃ (x5_1 : Int), v5 = .int .i64 x5_1 ∧ Aside0 (damperref06_Lists.l0 kq l0 l1 x5_1 = some r) ∧ Aside0 (kq ≤ k) ∧ Drawn0 w w')
    case atStart => exact ⟨(0), (by first | rfl | (simp; done) | (simp [*]; done)), H', ⟨Nat.le_refl _⟩, by repeat (first | exact Drawn0.refl _ | apply Drawn0.step)⟩
    case round =>
      clear H'
      try clear c1
      try clear p2
      try clear c3
      try clear c3b0
      try clear c3b1
      try clear c3b2
      obtain ⟨x5_1, rfl, HA, HK1, ⟨m1, rfl⟩⟩ := hrel
      cases gk with
      | zero => exact absurd HA.out (by simp [damperref06_Lists.l0])
      | succ k1 =>
        have H := HA.out
        clear HA
        simp only [damperref06_Lists.l0] at H
        by_cases c4 : x5_1 < (l0.length : Int)
        · rw [if_pos c4] at H
          have c4b0 : decide (x5_1 < (l0.length : Int)) = true := decide_eq_true c4
          clear c4
          by_cases c5 : 0 ≤ x5_1
          · rw [if_pos c5] at H
            have c5b0 : decide (0 ≤ x5_1) = true := decide_eq_true c5
            clear c5
            by_cases c6 : x5_1 < (l1.length : Int)
            · rw [if_pos c6] at H
              have c6b0 : decide (x5_1 < (l1.length : Int)) = true := decide_eq_true c6
              clear c6
              by_cases c7 : (!(((rd_T29 l0 x5_1).f0) == ((rd_T29 l1 x5_1).f0)) || (!(((rd_T29 l0 x5_1).f1) == ((rd_T29 l1 x5_1).f1)) || (!(((rd_T29 l0 x5_1).f2) == ((rd_T29 l1 x5_1).f2)) || (!(((rd_T29 l0 x5_1).f3) == ((rd_T29 l1 x5_1).f3)) || (!(((rd_T29 l0 x5_1).f4) == ((rd_T29 l1 x5_1).f4)) || (!(((rd_T29 l0 x5_1).f5) == ((rd_T29 l1 x5_1).f5)) || (!(((rd_T29 l0 x5_1).f6) == ((rd_T29 l1 x5_1).f6)) || (!(((rd_T29 l0 x5_1).f7) == ((rd_T29 l1 x5_1).f7)) || (!(((rd_T29 l0 x5_1).f8) == ((rd_T29 l1 x5_1).f8))))))))))) = true
              · rw [if_pos c7] at H
                have c7b0 : (!(((rd_T29 l0 x5_1).f0) == ((rd_T29 l1 x5_1).f0)) || (!(((rd_T29 l0 x5_1).f1) == ((rd_T29 l1 x5_1).f1)) || (!(((rd_T29 l0 x5_1).f2) == ((rd_T29 l1 x5_1).f2)) || (!(((rd_T29 l0 x5_1).f3) == ((rd_T29 l1 x5_1).f3)) || (!(((rd_T29 l0 x5_1).f4) == ((rd_T29 l1 x5_1).f4)) || (!(((rd_T29 l0 x5_1).f5) == ((rd_T29 l1 x5_1).f5)) || (!(((rd_T29 l0 x5_1).f6) == ((rd_T29 l1 x5_1).f6)) || (!(((rd_T29 l0 x5_1).f7) == ((rd_T29 l1 x5_1).f7)) || (!(((rd_T29 l0 x5_1).f8) == ((rd_T29 l1 x5_1).f8))))))))))) = true := c7
                clear c7
                obtain rfl := Option.some.inj H
                have p368 : 0 ≤ (x5_1 : Int) := of_decide_eq_true (by first | (with_reducible assumption) | assumption)
                have q368 : x5_1 < (l0.length : Int) := of_decide_eq_true (by first | (with_reducible assumption) | assumption)
                obtain ⟨ad368, e368, hx368_0, hx368_1, hx368_2, hx368_3, hx368_4, hx368_5, hx368_6, hx368_7, hx368_8⟩ := at_T29 HR0.out x5_1 p368 q368
                cases e368
                replace p368 := eq_true p368
                replace q368 := eq_true q368
                have p369 : 0 ≤ (x5_1 : Int) := of_decide_eq_true (by first | (with_reducible assumption) | assumption)
                have q369 : x5_1 < (l1.length : Int) := of_decide_eq_true (by first | (with_reducible assumption) | assumption)
                obtain ⟨ad369, e369, hx369_0, hx369_1, hx369_2, hx369_3, hx369_4, hx369_5, hx369_6, hx369_7, hx369_8⟩ := at_T29 HR1.out x5_1 p369 q369
                cases e369
                replace p369 := eq_true p369
                replace q369 := eq_true q369
                go_wp2
                repeat (go_quiet (fail); try go_wp2)
                go_ret
                exact ⟨by first | rfl | (simp; done) | (simp [*]; done), by repeat (first | exact Drawn0.refl _ | apply Drawn0.step)⟩
              · rw [if_neg c7] at H
                have c7b0 : (!(((rd_T29 l0 x5_1).f0) == ((rd_T29 l1 x5_1).f0)) || (!(((rd_T29 l0 x5_1).f1) == ((rd_T29 l1 x5_1).f1)) || (!(((rd_T29 l0 x5_1).f2) == ((rd_T29 l1 x5_1).f2)) || (!(((rd_T29 l0 x5_1).f3) == ((rd_T29 l1 x5_1).f3)) || (!(((rd_T29 l0 x5_1).f4) == ((rd_T29 l1 x5_1).f4)) || (!(((rd_T29 l0 x5_1).f5) == ((rd_T29 l1 x5_1).f5)) || (!(((rd_T29 l0 x5_1).f6) == ((rd_T29 l1 x5_1).f6)) || (!(((rd_T29 l0 x5_1).f7) == ((rd_T29 l1 x5_1).f7)) || (!(((rd_T29 l0 x5_1).f8) == ((rd_T29 l1 x5_1).f8))))))))))) = false := by simpa using c7
                clear c7
                have H' := Aside0.mk H
                clear H
                have p368 : 0 ≤ (x5_1 : Int) := of_decide_eq_true (by first | (with_reducible assumption) | assumption)
                have q368 : x5_1 < (l0.length : Int) := of_decide_eq_true (by first | (with_reducible assumption) | assumption)
                obtain ⟨ad368, e368, hx368_0, hx368_1, hx368_2, hx368_3, hx368_4, hx368_5, hx368_6, hx368_7, hx368_8⟩ := at_T29 HR0.out x5_1 p368 q368
                cases e368
                replace p368 := eq_true p368
                replace q368 := eq_true q368
                have p369 : 0 ≤ (x5_1 : Int) := of_decide_eq_true (by first | (with_reducible assumption) | assumption)
                have q369 : x5_1 < (l1.length : Int) := of_decide_eq_true (by first | (with_reducible assumption) | assumption)
                obtain ⟨ad369, e369, hx369_0, hx369_1, hx369_2, hx369_3, hx369_4, hx369_5, hx369_6, hx369_7, hx369_8⟩ := at_T29 HR1.out x5_1 p369 q369
                cases e369
                replace p369 := eq_true p369
                replace q369 := eq_true q369
                go_wp2
                repeat (go_quiet (fail); try go_wp2)
                go_roundg k1
                case measure => have := HK1.out; omega
                case rel => exact ⟨(wrap64 (x5_1 + 1)), (by first | rfl | (simp; done) | (simp [*]; done)), H', ⟨by have := HK1.out; omega⟩, by repeat (first | exact Drawn0.refl _ | apply Drawn0.step)⟩
            · rw [if_neg c6] at H
              exact absurd H (by simp)
          · rw [if_neg c5] at H
            exact absurd H (by simp)
        · rw [if_neg c4] at H
          have c4b0 : decide (x5_1 < (l0.length : Int)) = false := decide_eq_false c4
          clear c4
          obtain rfl := Option.some.inj H
          go_wp2
          repeat (go_quiet (fail); try go_wp2)
          go_ret
          exact ⟨by first | rfl | (simp; done) | (simp [*]; done), by repeat (first | exact Drawn0.refl _ | apply Drawn0.step)⟩
  · rw [if_neg c3] at H
    have c3b0 : ((l0.length : Int) == (l1.length : Int)) = false := beq_eq_false_iff_ne.mpr c3
    have c3b1 : ((l0.length : Int) != (l1.length : Int)) = true := bne_iff_ne.mpr c3
    have c3b2 : (l0.length == l1.length) = false := by first | simpa using c3 | (simp at c3 ⊢; omega)
    obtain rfl := Option.some.inj H
    go_enter Try.func59, Try.ntmps59
    go_wp2
    repeat (go_quiet (fail); try go_wp2)
    go_ret
    exact ⟨by first | rfl | (simp; done) | (simp [*]; done), by repeat (first | exact Drawn0.refl _ | apply Drawn0.step)⟩

end Go.Proofs.Ytalpemoodollpaa.P
