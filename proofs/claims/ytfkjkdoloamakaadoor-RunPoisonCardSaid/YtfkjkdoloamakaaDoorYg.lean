/- Cells of the specification, where what its Poisons answers is known: a list of cells that is closed with its list of registers. -/
import Derived.Test.YtfkjkdoloamakaaDoorYe
import Derived.Test.YtfkjkdoloamakaaDoorMg
namespace Go.Proofs.YtfkjkdoloamakaaDoor
open Go.RowKit
set_option linter.unusedVariables false
set_option linter.unusedSimpArgs false
variable {w : World} {F : Nat → Prop} {U : UnS} {Av Ab : Option Addr} {cv cb : Nat}

/-- what Poisons of the specification answers -/
def PoisP (U : UnS) (w : World) (x : Ending) (w' : World) : Prop :=
  ∃ g R C, x = .returned (.slice (some ⟨g, 0, none⟩) R.length R.length) ∧ Blk w' g 4 (boolV R).toArray ∧ w.heap.size ≤ g ∧ (R.length : Int) = U.regs ∧ (C.length : Int) = U.spill ∧ Closed U R C ∧ Below w.heap.size w w'
/-- the keeps of the operations so far are in the list -/
def KeptO (R C : List Bool) (o : OpI) : Prop := o.k = 19 → mb R o.a = true → mb C o.n = true
theorem mb_set {C : List Bool} {n m : Int} (hn : inR n C.length) : mb (C.set n.toNat true) m = true ↔ (m.toNat = n.toNat ∨ mb C m = true) := by
  unfold mb
  rw [getD_set]
  have h1 := hn.1
  have h2 := hn.2
  by_cases e : n.toNat = m.toNat
  · rw [if_pos ⟨e, by omega⟩]
    exact ⟨fun _ => .inl e.symm, fun _ => rfl⟩
  · rw [if_neg (fun h => e h.1)]
    exact ⟨.inr, fun h => h.elim (fun h => absurd h.symm e) id⟩
theorem inf_bool : (Tryd.prog.info? 4).map (fun i => (i.zero, i.size, i.bytes)) = some (some (.bool false), 1, 1) := by kernel_rfl
theorem made_false (m : Nat) : madeCells #[Value.bool false] m = (List.replicate m (.bool false)).toArray := by
  unfold madeCells
  apply Array.ext
  · simp
  · intro i h1 h2
    have h : i % 1 = 0 := by omega
    simp [h]
theorem make_bool (n : Int) (h0 : 0 ≤ n) (h1 : n ≤ 100000) (W : World) : (Instr.makeSlice 94 (.int .i64 n) (.int .i64 n)).run Tryd.prog W = .ok (.slice (some ⟨W.heap.size, 0, none⟩) n.toNat n.toNat) (W.alloc (.cells (boolV (List.replicate n.toNat false)).toArray 4)) := by
  obtain ⟨i0, hi, hz0, hz1, hz2⟩ := info_parts inf_bool
  have hr := run_make (P := Tryd.prog) W 94 4 i0 _ Tryd.underlying94 hi hz0 .i64 .i64 n n h0 (Int.le_refl _) (by rw [hz2]; omega) (by omega)
  rw [hr, hz1, Nat.mul_one]
  exact congrArg (fun x => Result.ok (Value.slice (some ⟨W.heap.size, 0, none⟩) n.toNat n.toNat) (W.alloc (.cells x 4))) ((made_false _).trans (by simp [boolV]))
/-- what the loops of Cells keep -/
structure CelS (U : UnS) (R C' C2 : List Bool) (i k : Nat) : Prop where
  len : (C2.length : Int) = U.spill
  sub : ∀ n : Int, mb C2 n = true → mb C' n = true
  done : ∀ j, j < i → ∀ o ∈ (U.blocks.getD j dBl).ops, KeptO R C2 o
  part : ∀ j, j < k → j < (U.blocks.getD i dBl).ops.length → KeptO R C2 ((U.blocks.getD i dBl).ops.getD j dOp)
theorem CelS.nextB {R C' C2 : List Bool} {i k : Nat} (h : CelS U R C' C2 i k) (hk : (U.blocks.getD i dBl).ops.length ≤ k) : CelS U R C' C2 (i + 1) 0 :=
  ⟨h.len, h.sub, fun j hj o ho => (Nat.lt_or_eq_of_le (Nat.le_of_lt_succ hj)).elim (fun h' => h.done j h' o ho) (fun e => by
    subst e
    obtain ⟨m, hm, rfl⟩ := List.getElem_of_mem ho
    have := h.part m (by omega) hm
    rw [List.getD_eq_getElem?_getD, List.getElem?_eq_getElem hm] at this
    exact this), fun j hj _ => absurd hj (Nat.not_lt_zero _)⟩
theorem CelS.skip {R C' C2 : List Bool} {i k : Nat} (h : CelS U R C' C2 i k) (ho : KeptO R C2 ((U.blocks.getD i dBl).ops.getD k dOp)) : CelS U R C' C2 i (k + 1) :=
  ⟨h.len, h.sub, h.done, fun j hj hl => (Nat.lt_or_eq_of_le (Nat.le_of_lt_succ hj)).elim (fun h' => h.part j h' hl) (fun e => by subst e; exact ho)⟩
theorem CelS.set {R C' C2 : List Bool} {i k : Nat} (h : CelS U R C' C2 i k) {n : Int} (hn : inR n C2.length) (hc : mb C' n = true) (he : ((U.blocks.getD i dBl).ops.getD k dOp).n = n) : CelS U R C' (C2.set n.toNat true) i (k + 1) := by
  have up : ∀ {o : OpI}, KeptO R C2 o → KeptO R (C2.set n.toNat true) o := fun ho h1 h2 => (mb_set hn).2 (.inr (ho h1 h2))
  refine ⟨by simp only [List.length_set]; exact h.len, fun m hm => ?_, fun j hj o ho => up (h.done j hj o ho), fun j hj hl => ?_⟩
  · rcases (mb_set hn).1 hm with e | hm
    · have e2 : mb C' m = mb C' n := by unfold mb; rw [e]
      rw [e2]; exact hc
    · exact h.sub m hm
  · rcases Nat.lt_or_eq_of_le (Nat.le_of_lt_succ hj) with h' | e
    · exact up (h.part j h' hl)
    · subst e
      intro _ _
      rw [he]
      exact (mb_set hn).2 (.inl rfl)
theorem CelS.closed {R C' C2 : List Bool} {i k : Nat} (h : CelS U R C' C2 i k) (hi : U.blocks.length ≤ i) (hcl : Closed U R C') : Closed U R C2 := fun b hb o ho => by
  have h1 := hcl b hb o ho
  obtain ⟨j, hj, rfl⟩ := List.getElem_of_mem hb
  have h2 := h.done j (by omega) o (by rw [List.getD_eq_getElem?_getD, List.getElem?_eq_getElem hj]; exact ho)
  exact ⟨h1.late, h2, fun e hc => h1.fetch e (h.sub _ hc), h1.plain⟩
/-- how many falses a block holds; what a box of a bool holds: for the measure -/
def isF : Value → Bool
  | .bool false => true
  | _ => false
def cntW (w : World) (g : Nat) : Nat := match w.heap[g]? with
  | some (.cells cs _ _) => cs.toList.countP isF
  | _ => 0
theorem countP_boolV : ∀ l : List Bool, (boolV l).countP isF = cntF l
  | [] => rfl
  | b :: r => by
    have ih := countP_boolV r
    have e : boolV (b :: r) = Value.bool b :: boolV r := rfl
    rw [e, List.countP_cons, ih]
    cases b
    · simp [isF, cntF]; omega
    · simp [isF, cntF]
theorem cntW_eq {w : World} {g : Nat} {l : List Bool} (h : Blk w g 4 (boolV l).toArray) : cntW w g = cntF l := by
  unfold cntW
  rw [show w.heap[g]? = _ from h]
  exact countP_boolV l
def boolN : Value → Nat
  | .bool true => 1
  | _ => 0
end Go.Proofs.YtfkjkdoloamakaaDoor
