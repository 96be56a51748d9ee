/- Poisons of the specification, without the program: what its loops keep. -/
import Derived.Test.YtfkjkdoloamakaaDoorYh
import Derived.Test.YtfkjkdoloamakaaDoorTk
namespace Go.Proofs.YtfkjkdoloamakaaDoor
open Go.RowKit
set_option linter.unusedVariables false
set_option linter.unusedSimpArgs false
variable {w : World} {F : Nat → Prop} {U : UnS}

/-- what a pass over the operations keeps: nothing is new (t is false), and the lists are closed under what has come; or something is new -/
structure PasS (U : UnS) (R0 C0 R C : List Bool) (t : Bool) (i k : Nat) : Prop where
  lR : R.length = R0.length
  lC : C.length = C0.length
  same : t = false → R = R0 ∧ C = C0
  done : t = false → ∀ j, j < i → ∀ o ∈ (U.blocks.getD j dBl).ops, ClosedO R C o
  part : t = false → ∀ j, j < k → j < (U.blocks.getD i dBl).ops.length → ClosedO R C ((U.blocks.getD i dBl).ops.getD j dOp)
  less : t = true → cntF R + cntF C < cntF R0 + cntF C0
variable {R0 C0 R C : List Bool} {t : Bool} {i k : Nat}
theorem PasS.start : PasS U R0 C0 R0 C0 false 0 0 := ⟨rfl, rfl, fun _ => ⟨rfl, rfl⟩, fun _ j hj => absurd hj (Nat.not_lt_zero _), fun _ j hj => absurd hj (Nat.not_lt_zero _), fun h => by cases h⟩
theorem PasS.le (h : PasS U R0 C0 R C t i k) : cntF R + cntF C ≤ cntF R0 + cntF C0 := by
  cases t
  · obtain ⟨e1, e2⟩ := h.same rfl
    rw [e1, e2]; exact Nat.le_refl _
  · exact Nat.le_of_lt (h.less rfl)
theorem PasS.nextB (h : PasS U R0 C0 R C t i k) (hk : (U.blocks.getD i dBl).ops.length ≤ k) : PasS U R0 C0 R C t (i + 1) 0 :=
  ⟨h.lR, h.lC, h.same, fun ht j hj o ho => (Nat.lt_or_eq_of_le (Nat.le_of_lt_succ hj)).elim (fun h' => h.done ht j h' o ho) (fun e => by
    subst e
    obtain ⟨m, hm, rfl⟩ := List.getElem_of_mem ho
    have := h.part ht m (by omega) hm
    rw [List.getD_eq_getElem?_getD, List.getElem?_eq_getElem hm] at this
    exact this), fun _ j hj _ => absurd hj (Nat.not_lt_zero _), h.less⟩
theorem PasS.skip (h : PasS U R0 C0 R C t i k) (ho : ClosedO R C ((U.blocks.getD i dBl).ops.getD k dOp)) : PasS U R0 C0 R C t i (k + 1) :=
  ⟨h.lR, h.lC, h.same, h.done, fun ht j hj hl => (Nat.lt_or_eq_of_le (Nat.le_of_lt_succ hj)).elim (fun h' => h.part ht j h' hl) (fun e => by subst e; exact ho), h.less⟩
theorem PasS.setR (h : PasS U R0 C0 R C t i k) {d : Int} (hd : inR d R.length) (hn : mb R d = false) (i' k' : Nat) : PasS U R0 C0 (R.set d.toNat true) C true i' k' := by
  have := cntF_set R d.toNat (by have := hd.1; have := hd.2; omega) hn
  have := h.le
  exact ⟨by simp only [List.length_set]; exact h.lR, h.lC, (fun e => by cases e), (fun e => by cases e), (fun e => by cases e), fun _ => by omega⟩
theorem PasS.setC (h : PasS U R0 C0 R C t i k) {n : Int} (hd : inR n C.length) (hn : mb C n = false) (i' k' : Nat) : PasS U R0 C0 R (C.set n.toNat true) true i' k' := by
  have := cntF_set C n.toNat (by have := hd.1; have := hd.2; omega) hn
  have := h.le
  exact ⟨h.lR, by simp only [List.length_set]; exact h.lC, (fun e => by cases e), (fun e => by cases e), (fun e => by cases e), fun _ => by omega⟩
theorem PasS.closed (h : PasS U R0 C0 R C false i k) (hi : U.blocks.length ≤ i) : Closed U R C := fun b hb o ho => by
  obtain ⟨m, hm, rfl⟩ := List.getElem_of_mem hb
  have := h.done rfl m (by omega) o
  rw [List.getD_eq_getElem?_getD, List.getElem?_eq_getElem hm] at this
  exact this ho
/-- what a list of operands tells -/
theorem opL_reads {k a b c : Int} {d n g : Int} {R : List Bool} (h : anyB R (opL k a b c) = false) : ¬ readsMay R ⟨k, d, a, b, c, n, g⟩ := by
  have no : ∀ r, r ∈ opL k a b c → mb R r = true → False := fun r hr hm => by
    rw [anyB_yes hr hm] at h; cases h
  rintro (⟨h1, h2⟩ | ⟨h1, h2⟩ | ⟨h1, h2⟩)
  · simp only at h1 h2
    exact no a (by unfold opL; simp [h1]) h2
  · simp only at h1 h2
    exact no b (by unfold opL; simp [h1]) h2
  · simp only at h1 h2
    exact no c (by unfold opL; simp [h1]) h2
theorem opL_in3 {k a b c K : Int} (ha : inR a K) (hb : inR b K) (hc : inR c K) : ∀ r ∈ opL k a b c, inR r K := fun r hr => by
  rcases opL_in hr with e | e | e <;> subst e <;> assumption
theorem closed_late {d n g a b c k : Int} (hk : 23 ≤ k) (h : mb R d = true) : ClosedO R C ⟨k, d, a, b, c, n, g⟩ :=
  ⟨fun _ => h, fun e => by simp only at e; omega, fun e => by simp only at e; omega, fun _ e => by simp only at e; omega⟩
theorem closed_plain {d n g a b c k : Int} (h1 : 2 ≤ k) (h2 : k ≤ 13) (h : readsMay R ⟨k, d, a, b, c, n, g⟩ → mb R d = true) : ClosedO R C ⟨k, d, a, b, c, n, g⟩ :=
  ⟨fun e => by simp only at e; omega, fun e => by simp only at e; omega, fun e => by simp only at e; omega, fun _ _ => h⟩
theorem closed_keep {d n g a b c : Int} (h : mb R a = true → mb C n = true) : ClosedO R C ⟨19, d, a, b, c, n, g⟩ :=
  ⟨fun e => by simp only at e; omega, fun _ => h, fun e => absurd (show (19 : Int) = 18 from e) (by decide), fun _ e => absurd (show (19 : Int) ≤ 13 from e) (by decide)⟩
theorem closed_fetch {d n g a b c : Int} (h : mb C n = true → mb R d = true) : ClosedO R C ⟨18, d, a, b, c, n, g⟩ :=
  ⟨fun e => by simp only at e; omega, fun e => absurd (show (18 : Int) = 19 from e) (by decide), fun _ => h, fun _ e => absurd (show (18 : Int) ≤ 13 from e) (by decide)⟩
theorem closed_none {d n g a b c k : Int} (h1 : k < 2 ∨ 13 < k) (h2 : ¬ 23 ≤ k) (h3 : k ≠ 18) (h4 : k ≠ 19) : ClosedO R C ⟨k, d, a, b, c, n, g⟩ :=
  ⟨fun e => by simp only at e; omega, fun e => absurd e h4, fun e => absurd e h3, fun e e2 => by simp only at e e2; omega⟩
theorem anyB_take {l : List Int} {j : Nat} (h : j < l.length) : anyB R (l.take (j + 1)) = (anyB R (l.take j) || mb R l[j]) := by
  unfold anyB
  rw [List.take_add_one, List.getElem?_eq_getElem h, List.any_append]
  simp
theorem getD_of_lt2 {α : Type} {l : List α} {i : Nat} (d : α) (h : i < l.length) : l.getD i d = l[i] := by
  rw [List.getD_eq_getElem?_getD, List.getElem?_eq_getElem h]; rfl
theorem PasS.fall (h : PasS U R0 C0 R C t i k) : 2 * (cntF R + cntF C) + boolN (.bool t) < 2 * (cntF R0 + cntF C0) + boolN (.bool true) := by
  cases t
  · obtain ⟨e1, e2⟩ := h.same rfl
    rw [e1, e2]
    simp [boolN]
  · have := h.less rfl
    simp [boolN]
    omega
end Go.Proofs.YtfkjkdoloamakaaDoor
