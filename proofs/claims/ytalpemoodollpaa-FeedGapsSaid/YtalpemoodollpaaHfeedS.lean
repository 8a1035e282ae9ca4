/- A feed.Feed: what it holds. -/
import Derived.Test.YtalpemoodollpaaHMsgPure
import Derived.Test.YtalpemoodollpaaHBox
namespace Go.Proofs.Ytalpemoodollpaa.P
open Go.RowKit Go.Proofs.YtalpemoodollpaaW.PrintWords Go.Proofs.YtalpemoodollpaaW.PrintLast Go.Proofs.YtalpemoodollpaaW.PrintMore
set_option linter.unusedVariables false
set_option linter.unusedSimpArgs false

theorem R29_ok {W : World} {base : Nat} {ok ok' : Nat → Prop} {v : Value} {ms : List S29} (h : Kd.R k29 29 W base ok v ms) (hk : ∀ k, v.ownBlock = some k → ok' k) : Kd.R k29 29 W base ok' v ms := by
  obtain ⟨_, inner, ho, hr⟩ := h
  exact ⟨hk, inner, ho, hr.imp_ (fun x cs hp => by obtain rfl := k29_openM hp; exact k29_mkM _ _ _ x)⟩
theorem R29_fr {w w1 : World} {S : Nat → Prop} {base : Nat} {ok : Nat → Prop} {v : Value} {ms : List S29} (h : Kd.R k29 29 w base ok v ms) (hf : Fr w w1 S) (hn : ∀ k, v.ownBlock = some k → ¬ S k) : Kd.R k29 29 w1 base ok v ms := by
  have h1 : Kd.R k29 29 w base (fun k => v.ownBlock = some k) v ms := R29_ok h (fun k hk => hk)
  exact R29_ok (Kd.R_step h1 (fun k hk hl => hf.block k hl (hn k hk))) (fun k hk => h.1 k hk)
/-- A feed.Feed (t = 142), or the document's (another t), at block g: its messages; row: the block that they lie in. -/
def FS (t : Nat) (W : World) (g : Nat) (row : Option Nat) (ms : List S29) : Prop :=
  ∃ v, W.heap[g]? = some (.cells #[v] t (0, 0)) ∧ v.ownBlock = row ∧ Kd.R k29 29 W 0 (fun _ => True) v ms
def FPost (t : Nat) (w : World) (g : Nat) (row : Option Nat) (ms : List S29) (w' : World) : Prop :=
  ∃ row', FS t w' g row' ms ∧ (row' = row ∨ ∃ b, row' = some b ∧ w.heap.size ≤ b) ∧ Fr w w' (fun k => k = g ∨ row = some k)
structure FIn (t : Nat) (w W : World) (g : Nat) (row : Option Nat) (ms : List S29) (v : Value) : Prop where
  hb : W.heap[g]? = some (.cells #[v] t (0, 0))
  hR : Kd.R k29 29 W 0 (fun _ => True) v ms
  hrow : v.ownBlock = row ∨ ∃ b, v.ownBlock = some b ∧ w.heap.size ≤ b
  hfr : Fr w W (fun k => k = g ∨ row = some k)
namespace FIn
variable {t : Nat} {w W W1 : World} {g : Nat} {row : Option Nat} {ms ns : List S29} {v v1 : Value}
theorem cell (h : FIn t w W g row ms v) : W.cell? ⟨g, 0, none⟩ = some v := (blk_cell h.hb 0).trans rfl
theorem frozen (h : FIn t w W g row ms v) : W.frozen? ⟨g, 0, none⟩ = false := blk_frozen h.hb 0
theorem below (h : FIn t w W g row ms v) (hB : Below W.heap.size W W1) : FIn t w W1 g row ms v :=
  ⟨(hB.block g (blk_lt h.hb)).trans h.hb, Kd.R_below h.hR hB, h.hrow, h.hfr.trans (Fr.of_below hB (fun _ => False)) (fun _ _ h => h.elim)⟩
theorem drew (h : FIn t w W g row ms v) : FIn t w W.drew g row ms v := ⟨h.hb, Kd.R_drew h.hR, h.hrow, h.hfr.drew⟩
theorem alloc (h : FIn t w W g row ms v) (o : Obj) : FIn t w (W.alloc o) g row ms v := ⟨blk_alloc h.hb o, Kd.R_alloc h.hR o, h.hrow, h.hfr.alloc o⟩
theorem post (h : FIn t w W g row ms v) : FPost t w g row ms W := ⟨_, ⟨v, h.hb, rfl, h.hR⟩, h.hrow, h.hfr⟩
theorem start (h : FS t w g row ms) : ∃ v, FIn t w w g row ms v := by
  obtain ⟨v, hb, hr, ho⟩ := h
  exact ⟨v, hb, ho, .inl hr, Fr.refl _ _⟩
theorem step (ht : 29 ≠ t) (h : FIn t w W g row ns v) (hown : Kd.R k29 29 W1 0 (fun _ => True) v1 ms) (hg : W.grownBy W1 v.ownBlock) (hat : v1.ownBlock = v.ownBlock ∨ ∃ b, v1.ownBlock = some b ∧ W.heap.size ≤ b) :
    FIn t w (W1.setCell ⟨g, 0, none⟩ v1) g row ms v1 := by
  have hne := Kd.R_ne h.hR h.hb ht
  have hb1 := blk_grown h.hb hg hne
  have hne1 := Kd.R_ne hown hb1 ht
  refine ⟨by simpa using blk_set hb1 0 v1, ?_, ?_, ?_⟩
  · exact R29_ok (Kd.R_far (R29_ok hown (ok' := fun k => v1.ownBlock = some k) (fun k hk => hk)) (p := ⟨g, 0, none⟩) (fun k hk e => hne1 (by rw [hk]; exact congrArg some e.symm)) v1) (fun _ _ => trivial)
  · rcases hat with hat | ⟨b, hat, hl⟩
    · rw [hat]; exact h.hrow
    · exact .inr ⟨b, hat, Nat.le_trans h.hfr.size hl⟩
  · refine (h.hfr.grown hg ?_).setCell _ _ (fun _ => .inl rfl)
    intro k hk he
    rcases h.hrow with hrow | ⟨b, hrow, hl⟩
    · right; rw [← hrow]; exact he
    · rw [hrow] at he; injection he with he; omega
theorem cells (ht : 29 ≠ t) (h : FIn t w W g row ns v) (hg : W.grownBy W1 v.ownBlock) : W1.cell? ⟨g, 0, none⟩ = some v ∧ W1.frozen? ⟨g, 0, none⟩ = false := by
  have hb1 := blk_grown h.hb hg (Kd.R_ne h.hR h.hb ht)
  exact ⟨(blk_cell hb1 0).trans rfl, blk_frozen hb1 0⟩
section
variable {ops : Array Oper} {rest : List Oper} {o : Oper} {a : Act} {Q : Exit → Act → World → Prop}
def msgCells (m : S29) : List Value := [.int .i64 m.f0, .int .i64 m.f1, .int .i64 m.f2, .int .i64 m.f3, .int .i64 m.f4, .int .i64 m.f5, .int .i64 m.f6, .int .i64 m.f7, .int .i64 m.f8]
theorem info29 : (Try.prog.info? 29).map (fun i => (i.zero, i.size, i.bytes)) = some (some (.agg #[.int .i64 0, .int .i64 0, .int .i64 0, .int .i64 0, .int .i64 0, .int .i64 0, .int .i64 0, .int .i64 0, .int .i64 0]), 9, 72) := by kernel_rfl
theorem append_step {K : Act → World → Prop} (ht : 29 ≠ t) (h : FIn t w W g row ns v) (hw : Region.wanted o (yielded ops a.tmps) = true) (s x : Operand) (m : S29)
    (ho : o.op = .call { callee := .builtin .append, args := #[s, x], argTypes := #[22, 22] }) (hs : a.eval s = v) (hx : a.eval x = .slice (some ⟨W.heap.size, 0, none⟩) 1 1)
    (hl : (ns.length + 1) * 72 ≤ 140737488355328)
    (k : ∀ A n c w1, FIn t w (w1.setCell ⟨g, 0, none⟩ (.slice A n c)) g row (ns ++ [m]) (.slice A n c) → Aside0 (w1.cell? ⟨g, 0, none⟩ = some v) → w1.frozen? ⟨g, 0, none⟩ = false → Aside0 (Fr W (w1.setCell ⟨g, 0, none⟩ (.slice A n c)) (fun k => k = g ∨ v.ownBlock = some k)) → Aside0 ((Value.slice A n c).ownBlock = v.ownBlock ∨ ∃ b, (Value.slice A n c).ownBlock = some b ∧ W.heap.size ≤ b) → K (a.put o.dst (.slice A n c)) w1) :
    if Region.wanted o (yielded ops a.tmps) = true then Oper.wp Try.prog o a (W.alloc (.cells #[.int .i64 m.f0, .int .i64 m.f1, .int .i64 m.f2, .int .i64 m.f3, .int .i64 m.f4, .int .i64 m.f5, .int .i64 m.f6, .int .i64 m.f7, .int .i64 m.f8] 29)) K Q
    else K (a.put o.dst undef) (W.alloc (.cells #[.int .i64 m.f0, .int .i64 m.f1, .int .i64 m.f2, .int .i64 m.f3, .int .i64 m.f4, .int .i64 m.f5, .int .i64 m.f6, .int .i64 m.f7, .int .i64 m.f8] 29)) := by
  refine Kd.R_append_step k29 (w0 := W) 0 hw s x 22 29 _ 72 ho Try.underlying22 info29 rfl (by decide) (by decide) v ns m (msgCells m) (fun _ => True) (fun _ => False) hs hx (k29_mkM _ _ _ m) (fun _ h => h.elim) (fun _ _ => trivial) h.hR (Below.refl 0 W) (Nat.zero_le _) hl ?_
  intro v1 w1 hown _ hgrow hat
  obtain ⟨A, c, rfl⟩ := Kd.R_slice hown
  obtain ⟨hc1, hf1⟩ := h.cells ht hgrow
  exact k A _ c w1 (h.step ht hown hgrow hat) ⟨hc1⟩ hf1 ⟨((Fr.refl W _).grown hgrow (fun k _ hk => .inr hk)).setCell _ _ (fun _ => .inl rfl)⟩ ⟨hat⟩
end
end FIn
theorem FS.fr {t : Nat} {w w1 : World} {S : Nat → Prop} {g : Nat} {row : Option Nat} {ms : List S29} (h : FS t w g row ms) (hf : Fr w w1 S) (hg : ¬ S g) (hr : ∀ k, row = some k → ¬ S k) : FS t w1 g row ms := by
  obtain ⟨v, hb, he, hR⟩ := h
  exact ⟨v, hf.blk hb hg, he, R29_fr hR hf (fun k hk => hr k (by rw [← he]; exact hk))⟩
theorem FS.below {t : Nat} {w w1 : World} {g : Nat} {row : Option Nat} {ms : List S29} (h : FS t w g row ms) (hb : Below w.heap.size w w1) : FS t w1 g row ms :=
  h.fr (Fr.of_below hb (fun _ => False)) (fun h => h) (fun _ _ h => h)
end Go.Proofs.Ytalpemoodollpaa.P
