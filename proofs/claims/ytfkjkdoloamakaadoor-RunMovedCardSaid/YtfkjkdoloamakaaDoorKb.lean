/- What the loop of RunProfile adds to its list. -/
import Derived.Test.YtfkjkdoloamakaaDoorKa
namespace Go.Proofs.YtfkjkdoloamakaaDoor
open Go.RowKit
set_option linter.unusedVariables false
set_option linter.unusedSimpArgs false
variable {w : World} {U : UnS} {s : St} {Av Ab : Option Addr} {cv cb : Nat} {F F2 : Nat → Prop}

/-- what the loop adds to the list -/
def want1 (b : BlkS) (c : Int × Int × Int) (W : List Int) : List Int :=
  let W1 := if b.ed.k = 1 ∨ b.ed.k = 2 then W.set b.ed.t.toNat (W.getD b.ed.t.toNat 0 + c.2.1) else W
  if b.ed.k = 2 then W1.set b.ed.l.toNat (W1.getD b.ed.l.toNat 0 + c.2.2) else W1
theorem getD_setI (v : Int) : ∀ (l : List Int) (i k : Nat), i < l.length → (l.set i v).getD k 0 = if k = i then v else l.getD k 0
  | c :: r, 0, 0, _ => by simp
  | c :: r, 0, k + 1, _ => by simp
  | c :: r, i + 1, 0, _ => by simp
  | c :: r, i + 1, k + 1, h => by
    simp only [List.set_cons_succ, List.getD_cons_succ, Nat.add_right_cancel_iff]
    exact getD_setI v r i k (by simpa using h)
theorem want1_length (b : BlkS) (c : Int × Int × Int) (W : List Int) : (want1 b c W).length = W.length := by
  unfold want1
  simp only
  split <;> split <;> simp
theorem want1_at (b : BlkS) (c : Int × Int × Int) (W : List Int) (ht : b.ed.k = 1 ∨ b.ed.k = 2 → inR b.ed.t W.length) (hl : b.ed.k = 2 → inR b.ed.l W.length) (j : Nat) : (want1 b c W).getD j 0 = W.getD j 0 + ctb b c j := by
  unfold want1 ctb
  simp only
  by_cases h1 : b.ed.k = 1 ∨ b.ed.k = 2
  · obtain ⟨t1, t2⟩ := ht h1
    rw [if_pos h1]
    have e1 : ∀ k, (W.set b.ed.t.toNat (W.getD b.ed.t.toNat 0 + c.2.1)).getD k 0 = W.getD k 0 + (if b.ed.t = (k : Int) then c.2.1 else 0) := fun k => by
      rw [getD_setI _ _ _ _ (by omega)]
      by_cases hk : k = b.ed.t.toNat
      · rw [if_pos hk, if_pos (by omega), hk]
      · rw [if_neg hk, if_neg (by omega)]; omega
    have e2 : (if (b.ed.k = 1 ∨ b.ed.k = 2) ∧ b.ed.t = (j : Int) then c.2.1 else 0) = (if b.ed.t = (j : Int) then c.2.1 else 0) := by
      by_cases h : b.ed.t = (j : Int)
      · rw [if_pos ⟨h1, h⟩, if_pos h]
      · rw [if_neg (fun x => h x.2), if_neg h]
    rw [e2]
    by_cases h2 : b.ed.k = 2
    · obtain ⟨l1, l2⟩ := hl h2
      rw [if_pos h2, getD_setI _ _ _ _ (by rw [List.length_set]; omega), e1, e1]
      by_cases hj : j = b.ed.l.toNat
      · have hj2 : b.ed.k = 2 ∧ b.ed.l = (j : Int) := ⟨h2, by omega⟩
        rw [if_pos hj, if_pos hj2, ← hj]; omega
      · have hj2 : ¬ (b.ed.k = 2 ∧ b.ed.l = (j : Int)) := fun x => hj (by have := x.2; omega)
        rw [if_neg hj, if_neg hj2]; omega
    · have hj2 : ¬ (b.ed.k = 2 ∧ b.ed.l = (j : Int)) := fun x => h2 x.1
      rw [if_neg h2, e1, if_neg hj2]; omega
  · have h2 : ¬ b.ed.k = 2 := fun h => h1 (.inr h)
    rw [if_neg h1, if_neg h2, if_neg (fun x => h1 x.1), if_neg (fun x => h2 x.1)]; omega
end Go.Proofs.YtfkjkdoloamakaaDoor
