/- The bytes of numbers: they are bytes; unlike numbers have unlike bytes; no number's bytes begin another's. Writers that are left alone. -/
import Derived.Test.YtalpemoodollpaaHalive
namespace Go.Proofs.Ytalpemoodollpaa.P
open Go.RowKit Go.Proofs.YtalpemoodollpaaW.PrintWords Go.Proofs.YtalpemoodollpaaW.PrintLast Go.Proofs.YtalpemoodollpaaW.PrintMore
set_option linter.unusedVariables false
set_option linter.unusedSimpArgs false

theorem numForm_byt (n : Nat) : Byt (numForm n) := by
  induction n using Nat.strongRecOn with
  | _ n ih =>
    rw [numForm]
    split
    · exact Byt.mk (by omega) Byt.nil
    · exact Byt.mk (by omega) (ih _ (by omega))
theorem uintForm_byt (n k : Nat) : Byt (uintForm n k) := by
  induction k with
  | zero => exact Byt.nil
  | succ k ih => exact Byt.mk (by omega) ih
theorem intForm_byt (n : Int) : Byt (intForm n) := uintForm_byt _ _
theorem numForm_lt {n : Nat} (h : n < 128) : numForm n = [(n : Int)] := by rw [numForm, if_pos h]
theorem numForm_ge {n : Nat} (h : ¬ n < 128) : numForm n = ((n % 128 + 128 : Nat) : Int) :: numForm (n / 128) := by rw [numForm, if_neg h]
theorem numForm_prefix (a : Nat) : ∀ (b : Nat) (xs ys : List Int), numForm a ++ xs = numForm b ++ ys → a = b ∧ xs = ys := by
  induction a using Nat.strongRecOn with
  | _ a ih =>
    intro b xs ys h
    by_cases ha : a < 128 <;> by_cases hb : b < 128
    · rw [numForm_lt ha, numForm_lt hb] at h
      simp only [List.cons_append, List.nil_append, List.cons.injEq] at h
      exact ⟨by omega, h.2⟩
    · rw [numForm_lt ha, numForm_ge hb] at h
      simp only [List.cons_append, List.nil_append, List.cons.injEq] at h
      omega
    · rw [numForm_ge ha, numForm_lt hb] at h
      simp only [List.cons_append, List.nil_append, List.cons.injEq] at h
      omega
    · rw [numForm_ge ha, numForm_ge hb] at h
      simp only [List.cons_append, List.cons.injEq] at h
      have h2 := ih (a / 128) (by omega) (b / 128) xs ys h.2
      exact ⟨by omega, h2.2⟩
theorem numForm_inj {a b : Nat} (h : numForm a = numForm b) : a = b := (numForm_prefix a b [] [] (by simpa using h)).1
/-- A number of k bytes, told again. -/
theorem beNum_uintForm (n k : Nat) : beNum (uintForm n k) = ((n % 256 ^ k : Nat) : Int) := by
  induction k with
  | zero => simp [uintForm, beNum, Nat.mod_one]
  | succ k ih =>
    rw [uintForm, beNum_cons, uintForm_length, ih, ← Int.natCast_mul, ← Int.natCast_add]
    congr 1
    rw [Nat.pow_succ, Nat.mod_mul, Nat.mul_comm (256 ^ k)]
    omega
theorem uintForm_inj {a b k : Nat} (ha : a < 256 ^ k) (hb : b < 256 ^ k) (h : uintForm a k = uintForm b k) : a = b := by
  have h2 := congrArg beNum h
  rw [beNum_uintForm, beNum_uintForm, Nat.mod_eq_of_lt ha, Nat.mod_eq_of_lt hb] at h2
  omega
theorem intForm_inj {a b : Int} (ha : -9223372036854775808 ≤ a) (ha2 : a ≤ 9223372036854775807) (hb : -9223372036854775808 ≤ b) (hb2 : b ≤ 9223372036854775807) (h : intForm a = intForm b) : a = b := by
  have e : 256 ^ 8 = 18446744073709551616 := by decide
  have h1 := zig_range a ha ha2
  have h2 := zig_range b hb hb2
  have h3 := uintForm_inj (a := (zig a).toNat) (b := (zig b).toNat) (k := 8) (by omega) (by omega) h
  exact zig_inj (by omega)
theorem begins_iff (a b : Nat) : (numForm a).length ≤ (numForm b).length ∧ numForm a = (numForm b).take (min (numForm a).length (numForm b).length) ↔ a = b := by
  constructor
  · rintro ⟨h1, h2⟩
    rw [Nat.min_eq_left h1] at h2
    refine (numForm_prefix a b ((numForm b).drop (numForm a).length) [] ?_).1
    rw [List.append_nil]
    conv => lhs; rw [h2]
    rw [show ((numForm b).take (numForm a).length).length = (numForm a).length by rw [List.length_take]; omega]
    exact List.take_append_drop _ _
  · rintro rfl
    exact ⟨Nat.le_refl _, by rw [Nat.min_self, List.take_length]⟩
theorem WS.fr {w w1 : World} {S : Nat → Prop} {g : Nat} {row : Option Nat} {xs : List Int} (h : WS w g row xs) (hf : Fr w w1 S) (hg : ¬ S g) (hr : ∀ k, row = some k → ¬ S k) : WS w1 g row xs := by
  obtain ⟨v, hb, hr2, ho⟩ := h
  exact ⟨v, hf.blk hb hg, hr2, hf.own ho (fun k hk => hr k (by rw [← hr2]; exact hk))⟩
theorem WS.alloc {w : World} {g : Nat} {row : Option Nat} {xs : List Int} (h : WS w g row xs) (o : Obj) : WS (w.alloc o) g row xs :=
  h.fr (S := fun _ => False) (Fr.of_below (below_alloc (Below.refl _ _) o) _) (fun h => h) (fun _ _ h => h)
theorem WS.below {w w1 : World} {g : Nat} {row : Option Nat} {xs : List Int} (h : WS w g row xs) (hb : Below w.heap.size w w1) : WS w1 g row xs :=
  h.fr (S := fun _ => False) (Fr.of_below hb _) (fun h => h) (fun _ _ h => h)
theorem WS.lt {w : World} {g : Nat} {row : Option Nat} {xs : List Int} (h : WS w g row xs) : g < w.heap.size := by
  obtain ⟨v, hb, _⟩ := h
  exact blk_lt hb
theorem RS.below {w w1 : World} {g : Nat} {row : Option Nat} {s : List Int × Int} (h : RS w g row s) (hb : Below w.heap.size w w1) : RS w1 g row s :=
  h.fr (S := fun _ => False) (Fr.of_below hb _) (fun h => h) (fun _ _ h => h)
end Go.Proofs.Ytalpemoodollpaa.P
