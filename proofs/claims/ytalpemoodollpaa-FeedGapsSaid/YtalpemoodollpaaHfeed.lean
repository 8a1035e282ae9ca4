/- damperlaw26.alive. -/
import Derived.Test.YtalpemoodollpaaHput2
import Derived.Test.YtalpemoodollpaaHgaps
namespace Go.Proofs.Ytalpemoodollpaa.P
open Go.RowKit FIn Go.Proofs.YtalpemoodollpaaW.PrintWords Go.Proofs.YtalpemoodollpaaW.PrintLast Go.Proofs.YtalpemoodollpaaW.PrintMore
set_option linter.unusedVariables false
set_option linter.unusedSimpArgs false
theorem FS.new (t : Nat) (w : World) : FS t (w.alloc (.cells #[.slice none 0 0] t)) w.heap.size none [] := ⟨_, blk_new w _, rfl, Kd.R_nil _ _ _ _ _⟩
set_option maxRecDepth 100000 in
theorem feed_New_calls (w : World) : Calls Try.prog 55 #[] w fun e w' => e = .returned (.pointer (some ⟨w.heap.size, 0, none⟩)) ∧ w' = w.alloc (.cells #[.slice none 0 0] 142) := by
  go_enter Try.func55, Try.ntmps55
  go_wp2
  go_ret
  exact ⟨rfl, rfl⟩
def l3 : List S29 := [⟨0, 0, 1, 0, 0, 0, 0, 0, 0⟩, ⟨0, 0, 2, 0, 0, 0, 0, 0, 0⟩, ⟨0, 0, 5, 0, 0, 0, 0, 0, 0⟩]
theorem l3_gaps : feed_Gaps.f l3 = some [3, 4] := by decide +kernel
theorem l3_C {W : World} {b : Nat} (h : W.heap[b]? = some (.cells #[.int .i64 0, .int .i64 0, .int .i64 1, .int .i64 0, .int .i64 0, .int .i64 0, .int .i64 0, .int .i64 0, .int .i64 0, .int .i64 0, .int .i64 0, .int .i64 2, .int .i64 0, .int .i64 0, .int .i64 0, .int .i64 0, .int .i64 0, .int .i64 0, .int .i64 0, .int .i64 0, .int .i64 5, .int .i64 0, .int .i64 0, .int .i64 0, .int .i64 0, .int .i64 0, .int .i64 0] 29 (0, 0))) :
    Kd.C k29 W (some ⟨b, 0, none⟩) l3.length l3 := by
  refine ⟨rfl, by decide, fun _ => ⟨_, rfl, fun j p hj => ?_⟩⟩
  have key : ∀ (n : Nat) (u : Value), (#[Value.int .i64 0, .int .i64 0, .int .i64 1, .int .i64 0, .int .i64 0, .int .i64 0, .int .i64 0, .int .i64 0, .int .i64 0, .int .i64 0, .int .i64 0, .int .i64 2, .int .i64 0, .int .i64 0, .int .i64 0, .int .i64 0, .int .i64 0, .int .i64 0, .int .i64 0, .int .i64 0, .int .i64 5, .int .i64 0, .int .i64 0, .int .i64 0, .int .i64 0, .int .i64 0, .int .i64 0] : Array Value)[n]? = some u → W.cell? ((⟨b, 0, none⟩ : Addr).add n) = some u := fun n u hu => by
    rw [add_plain]
    exact (blk_cell h n).trans hu
  have hlt : j < 3 := (List.getElem?_eq_some_iff.1 hj).1
  refine ⟨msgCells p, rfl, k29_mk W p, fun i u hu => key _ _ ?_⟩
  have hi : i < 9 := (List.getElem?_eq_some_iff.1 hu).1
  have hk : k29.sz = 9 := rfl
  rw [hk]
  match j, hlt with
  | 0, _ =>
    obtain rfl := Option.some.inj hj
    match i, hi with
    | 0, _ | 1, _ | 2, _ | 3, _ | 4, _ | 5, _ | 6, _ | 7, _ | 8, _ => exact hu
  | 1, _ =>
    obtain rfl := Option.some.inj hj
    match i, hi with
    | 0, _ | 1, _ | 2, _ | 3, _ | 4, _ | 5, _ | 6, _ | 7, _ | 8, _ => exact hu
  | 2, _ =>
    obtain rfl := Option.some.inj hj
    match i, hi with
    | 0, _ | 1, _ | 2, _ | 3, _ | 4, _ | 5, _ | 6, _ | 7, _ | 8, _ => exact hu
def damperlaw26_alive.f : Option Bool := some true
set_option maxRecDepth 100000 in
set_option maxHeartbeats 4000000 in
theorem damperlaw26_alive.calls (r : Bool) (w : World) (h : damperlaw26_alive.f = some r) : Calls Try.prog 25 #[] w fun e w' => e = .returned (.bool r) ∧ Below w.heap.size w w' := by
  obtain rfl := Option.some.inj h
  clear h
  have hP := fun g row w hs => feed_Put_calls g row [] 7 ⟨6, 0, 0, 0, 0, 0, 0, 0, 0⟩ w hs (by decide)
  have HP := Aside0.mk hP
  clear hP
  go_enter Try.func25, Try.ntmps25
  go_wp2_with fail
  refine (feed_New_calls w).mono ?_
  rintro e w1 ⟨rfl, rfl⟩
  have F1 := Aside0.mk (FS.new 142 w)
  go_wp2_with fail
  refine (HP.out w.heap.size none _ F1.out).mono ?_
  rintro e w2 ⟨hr, _⟩
  obtain ⟨rfl, hp⟩ := hr (by decide)
  clear hr
  have hB2 : Below w.heap.size w w2 := by
    obtain ⟨_, _, _, hf⟩ := hp
    exact Below.trans (below_alloc (Below.refl w.heap.size w) _) (hf.below (by simp) (fun k hk => hk.elim (fun e => by omega) (fun e => by cases e)))
  have B2 := Aside0.mk hB2
  clear hB2 hp F1 HP
  unfold msgVal putMsg
  dsimp only
  go_wp2_with fail
  have hbl := below_alloc (below_alloc B2.out (.cells #[.int .i64 6, .int .i64 0, .int .i64 1, .int .i64 7, .int .i64 0, .int .i64 0, .int .i64 0, .int .i64 0, .int .i64 0] 29)) (.cells #[.int .i64 0, .int .i64 0, .int .i64 1, .int .i64 0, .int .i64 0, .int .i64 0, .int .i64 0, .int .i64 0, .int .i64 0, .int .i64 0, .int .i64 0, .int .i64 2, .int .i64 0, .int .i64 0, .int .i64 0, .int .i64 0, .int .i64 0, .int .i64 0, .int .i64 0, .int .i64 0, .int .i64 5, .int .i64 0, .int .i64 0, .int .i64 0, .int .i64 0, .int .i64 0, .int .i64 0] 29)
  have hbox : Box9 ((w2.alloc (.cells #[.int .i64 6, .int .i64 0, .int .i64 1, .int .i64 7, .int .i64 0, .int .i64 0, .int .i64 0, .int .i64 0, .int .i64 0] 29)).alloc (.cells #[.int .i64 0, .int .i64 0, .int .i64 1, .int .i64 0, .int .i64 0, .int .i64 0, .int .i64 0, .int .i64 0, .int .i64 0, .int .i64 0, .int .i64 0, .int .i64 2, .int .i64 0, .int .i64 0, .int .i64 0, .int .i64 0, .int .i64 0, .int .i64 0, .int .i64 0, .int .i64 0, .int .i64 5, .int .i64 0, .int .i64 0, .int .i64 0, .int .i64 0, .int .i64 0, .int .i64 0] 29)) 29 w2.heap.size 6 0 1 7 0 0 0 0 0 := blk_alloc (blk_new w2 _) _
  have hlit := blk_new (w2.alloc (.cells #[.int .i64 6, .int .i64 0, .int .i64 1, .int .i64 7, .int .i64 0, .int .i64 0, .int .i64 0, .int .i64 0, .int .i64 0] 29)) (.cells #[.int .i64 0, .int .i64 0, .int .i64 1, .int .i64 0, .int .i64 0, .int .i64 0, .int .i64 0, .int .i64 0, .int .i64 0, .int .i64 0, .int .i64 0, .int .i64 2, .int .i64 0, .int .i64 0, .int .i64 0, .int .i64 0, .int .i64 0, .int .i64 0, .int .i64 0, .int .i64 0, .int .i64 5, .int .i64 0, .int .i64 0, .int .i64 0, .int .i64 0, .int .i64 0, .int .i64 0] 29)
  rw [World.size_alloc] at hlit
  have HLIT := Aside0.mk (l3_C hlit)
  have HBOX := Aside0.mk hbox
  have HBL := Aside0.mk hbl
  clear hlit hbox hbl
  refine (feed_Gaps.calls (some ⟨w2.heap.size + 1, 0, none⟩) 3 l3 [3, 4] _ HLIT.out (by decide) l3_gaps).mono ?_
  rintro e w3 ⟨v3, rfl, hR, hb⟩
  obtain ⟨A3, c3, rfl, hq, hC⟩ := Kd.R_reads hR
  have HB3 := Aside0.mk (Below.trans HBL.out (Below.mono hb HBL.out.size))
  have HBOX3 : Aside0 (Box9 w3 29 w2.heap.size 6 0 1 7 0 0 0 0 0) := ⟨(hb.block _ (blk_lt HBOX.out)).trans HBOX.out⟩
  obtain ⟨ad, hA, hc⟩ := (Kd.reads_of_C (d := (0 : Int)) hC).2.2 (by decide)
  subst hA
  have h0 : w3.cell? ad = some (.int .i64 3) := by have := hc 0 (by decide); simpa [Addr.add] using this
  have h1 : w3.cell? ⟨ad.block, ad.off + 1, none⟩ = some (.int .i64 4) := hc 1 (by decide)
  obtain ⟨d0, d1, d2, d3, d4, d5, d6, d7, d8⟩ := HBOX3.out.cells
  clear hb hR hC hc HLIT HBOX HBL hq
  go_wp2
  go_ret
  exact ⟨rfl, HB3.out⟩
end Go.Proofs.Ytalpemoodollpaa.P
