/- What start of package run leaves: an engine in the state St.init. -/
import Derived.Test.YtfkjkdoloamakaaDoorQe
import Derived.Laws.MakeOwn
import Derived.Laws.Entries
import Derived.Deep.CutRange
import Derived.Deep.DeepCutAuto
namespace Go.Proofs.YtfkjkdoloamakaaDoor
open Go.RowKit
set_option linter.unusedVariables false
set_option linter.unusedSimpArgs false
variable {w : World} {U : UnS} {Av Ab : Option Addr} {cv cb : Nat} {F : Nat → Prop}

theorem made_zero (z : Array Value) (hz : ∀ i, z[i % z.size]! = .int .i64 0) (m : Nat) : madeCells z m = (List.replicate m (.int .i64 0)).toArray := by
  unfold madeCells
  apply Array.ext
  · simp
  · intro i h1 h2
    simp [hz]
theorem zero1 (i : Nat) : (#[Value.int .i64 0] : Array Value)[i % (#[Value.int .i64 0] : Array Value).size]! = .int .i64 0 := by
  have h : i % 1 = 0 := by omega
  simp [h]
theorem zero2 (i : Nat) : (#[Value.int .i64 0, Value.int .i64 0] : Array Value)[i % (#[Value.int .i64 0, Value.int .i64 0] : Array Value).size]! = .int .i64 0 := by
  have h : i % 2 = 0 ∨ i % 2 = 1 := by omega
  rcases h with h | h <;> simp [h]
theorem zero3 (i : Nat) : (#[Value.int .i64 0, Value.int .i64 0, Value.int .i64 0] : Array Value)[i % (#[Value.int .i64 0, Value.int .i64 0, Value.int .i64 0] : Array Value).size]! = .int .i64 0 := by
  have h : i % 3 = 0 ∨ i % 3 = 1 ∨ i % 3 = 2 := by omega
  rcases h with h | h | h <;> simp [h]
theorem valC_zero : ∀ n : Nat, valC (List.replicate n (0, 0)) = List.replicate (n * 2) (.int .i64 0)
  | 0 => rfl
  | n + 1 => by
    rw [show (n + 1) * 2 = n * 2 + 1 + 1 by omega]
    simp only [List.replicate_succ, valC, valC_zero n]
theorem cntC_zero : ∀ n : Nat, cntC (List.replicate n (0, 0, 0)) = List.replicate (n * 3) (.int .i64 0)
  | 0 => rfl
  | n + 1 => by
    rw [show (n + 1) * 3 = n * 3 + 1 + 1 + 1 by omega]
    simp only [List.replicate_succ, cntC, cntC_zero n]
theorem make_val (n : Int) (h0 : 0 ≤ n) (h1 : n ≤ 100000) (W : World) : (Instr.makeSlice 63 (.int .i64 n) (.int .i64 n)).run Tryd.prog W = .ok (.slice (some ⟨W.heap.size, 0, none⟩) n.toNat n.toNat) (W.alloc (.cells (valC (List.replicate n.toNat (0, 0))).toArray 85)) := by
  obtain ⟨i0, hi, hz0, hz1, hz2⟩ := info_parts inf_val
  have hr := run_make (P := Tryd.prog) W 63 85 i0 _ Tryd.underlying63 hi hz0 .i64 .i64 n n h0 (Int.le_refl _) (by rw [hz2]; omega) (by omega)
  rw [hr, hz1, valC_zero]
  exact congrArg (fun x => Result.ok (Value.slice (some ⟨W.heap.size, 0, none⟩) n.toNat n.toNat) (W.alloc (.cells x 85))) (made_zero _ zero2 _)
theorem make_cnt (n : Nat) (h1 : n ≤ 100000) (W : World) : (Instr.makeSlice 55 (.int .i64 (n : Int)) (.int .i64 (n : Int))).run Tryd.prog W = .ok (.slice (some ⟨W.heap.size, 0, none⟩) n n) (W.alloc (.cells (cntC (List.replicate n (0, 0, 0))).toArray 68)) := by
  obtain ⟨i0, hi, hz0, hz1, hz2⟩ := info_parts inf_cnt
  have hr := run_make (P := Tryd.prog) W 55 68 i0 _ Tryd.underlying55 hi hz0 .i64 .i64 n n (by omega) (Int.le_refl _) (by rw [hz2]; omega) (by omega)
  rw [hr, hz1, cntC_zero, Int.toNat_natCast]
  exact congrArg (fun x => Result.ok (Value.slice (some ⟨W.heap.size, 0, none⟩) n n) (W.alloc (.cells x 68))) (made_zero _ zero3 _)
theorem make_i64 (n : Int) (h0 : 0 ≤ n) (h1 : n ≤ 100000) (W : World) : (Instr.makeSlice 26 (.int .i64 n) (.int .i64 n)).run Tryd.prog W = .ok (.slice (some ⟨W.heap.size, 0, none⟩) n.toNat n.toNat) (W.alloc (.cells (numV (List.replicate n.toNat 0)).toArray 2)) := by
  obtain ⟨i0, hi, hz0, hz1, hz2⟩ := info_parts inf_i64
  have hr := run_make (P := Tryd.prog) W 26 2 i0 _ Tryd.underlying26 hi hz0 .i64 .i64 n n h0 (Int.le_refl _) (by rw [hz2]; omega) (by omega)
  rw [hr, hz1, Nat.mul_one]
  exact congrArg (fun x => Result.ok (Value.slice (some ⟨W.heap.size, 0, none⟩) n.toNat n.toNat) (W.alloc (.cells x 2))) ((made_zero _ zero1 _).trans (by simp [numV]))

/-- what stands when the unit is copied and the engine's block is laid -/
structure StA (F' : Nat → Prop) (w wc : World) (U : UnS) (p gs : Nat) (us ub : Value) : Prop where
  bel : Fr (fun _ => False) w wc
  eng : Blk wc p 83 #[us, .int .i64 U.params, .int .i64 U.regs, .int .i64 U.code, .int .i64 U.spill, ub, .slice none 0 0, .slice none 0 0, .slice none 0 0, .slice none 0 0, .int .i64 0, .int .i64 0, .int .i64 0, .int .i64 0, .int .i64 0, .slice none 0 0, .slice (some ⟨gs, 0, none⟩) U.blocks.length U.blocks.length]
  seen : Blk wc gs 68 (cntC (List.replicate U.blocks.length (0, 0, 0))).toArray
  code : RdBlocks F' wc ub U.blocks
  far : ∀ g, F' g → g ≠ p ∧ g ≠ gs ∧ g < wc.heap.size
  up : w.heap.size ≤ p ∧ w.heap.size ≤ gs
theorem ownsRow_nil (w : World) (t : TypeId) (sz : Nat) : w.ownsRow 0 t sz (.slice none 0 0) 0 [] := ⟨by simp, .inl ⟨rfl, rfl⟩⟩
theorem StA.engQ {F' : Nat → Prop} {wc wr : World} {p gs gr gc : Nat} {us ub : Value} (args : List Int) (h : StA F' w wc U p gs us ub) (hf : Fr (fun b => b = p) wc wr) (hz : wc.heap.size ≤ gr) (hz2 : wc.heap.size ≤ gc) (hne : gr ≠ gc)
    (hp : Blk wr p 83 #[us, .int .i64 U.params, .int .i64 U.regs, .int .i64 U.code, .int .i64 U.spill, ub, .slice (some ⟨gr, 0, none⟩) U.regs.toNat U.regs.toNat, .slice (some ⟨gc, 0, none⟩) U.spill.toNat U.spill.toNat, .slice none 0 0, .slice none 0 0, .int .i64 0, .int .i64 0, .int .i64 0, .int .i64 0, .int .i64 0, .slice none 0 0, .slice (some ⟨gs, 0, none⟩) U.blocks.length U.blocks.length])
    (hr : Blk wr gr 85 (valC (List.replicate U.regs.toNat (0, 0))).toArray) (hc : Blk wr gc 85 (valC (List.replicate U.spill.toNat (0, 0))).toArray) :
    EngQ layP F' w (fun _ => False) wr p U (stK U args 0 0) { us := us, ub := ub, va := .slice none 0 0, vp := .slice none 0 0, vw := .slice none 0 0, gr := gr, gc := gc, gs := gs, ga := [] } := by
  have hsz := h.bel.size
  obtain ⟨u1, u2⟩ := h.up
  have e1 : regsK U.regs.toNat args 0 = List.replicate U.regs.toNat (0, 0) := regsK_zero _ _
  refine ⟨?_, h.bel.trans hf (fun i hi => .inr (by have e : i = p := hi; omega)), fun b hb => .inr ?_⟩
  · exact
      { blk := by simp only [layP, stK, e1, List.length_replicate, ownRow]; exact hp
        regs := by simp only [stK, e1]; exact hr
        kept := hc
        seen := h.seen.fr hf (h.eng.ne_ h.seen (by decide)).symm
        arrs := ownsRow_nil _ _ _
        ga := rfl
        inner := fun j hj => absurd hj (by simp [stK])
        prints := ownsRow_nil _ _ _
        ways := ownsRow_nil _ _ _
        code := h.code.fr hf fun g hg e => (h.far g hg).1 e
        rc := hne
        ap := fun g hg => absurd hg (by simp)
        aa := List.nodup_nil
        away := fun g hg hM => by
          obtain ⟨f1, f2, f3⟩ := h.far g hg
          rcases hM with e | e | e | e | e | e | e | e
          · exact f1 e
          · have e' : g = gr := e; omega
          · have e' : g = gc := e; omega
          · exact f2 e
          · cases e
          · cases e
          · cases e
          · cases e
        flt := fun g hg => Nat.lt_of_lt_of_le (h.far g hg).2.2 hf.size }
  · rcases hb with e | e | e | e | e | e | e | e
    · have e' : b = p := e; omega
    · have e' : b = gr := e; omega
    · have e' : b = gc := e; omega
    · have e' : b = gs := e; omega
    · cases e
    · cases e
    · cases e
    · cases e
end Go.Proofs.YtfkjkdoloamakaaDoor
