/- The specification's Engine: its layout, its step as a function on states, and that a run of it is a run of the machine. Nothing is walked. -/
import Derived.Test.YtfkjkdoloamakaaDoorMe
namespace Go.Proofs.YtfkjkdoloamakaaDoor
open Go.RowKit
set_option linter.unusedVariables false
set_option linter.unusedSimpArgs false

/-! ### the step that counts the operation before it is done -/
def St.stepR (U : UnS) (s : St) : St :=
  if s.pc < (U.blocks.getD s.bl dBl).ops.length then
    (if ((({ s with steps := s.steps + 1, pc := s.pc + 1 } : St).doR ((U.blocks.getD s.bl dBl).ops.getD s.pc dOp)).2.1 ≠ 0) then (({ s with steps := s.steps + 1, pc := s.pc + 1 } : St).doR ((U.blocks.getD s.bl dBl).ops.getD s.pc dOp)).1.trap U (({ s with steps := s.steps + 1, pc := s.pc + 1 } : St).doR ((U.blocks.getD s.bl dBl).ops.getD s.pc dOp)).2.1
     else (({ s with steps := s.steps + 1, pc := s.pc + 1 } : St).doR ((U.blocks.getD s.bl dBl).ops.getD s.pc dOp)).1)
  else ({ s with steps := s.steps + 1 } : St).leave U (U.blocks.getD s.bl dBl).ed
def St.runR (U : UnS) : Nat → St → St
  | 0, s => s
  | n + 1, s => if s.kind = 0 then St.runR U n (s.stepR U) else s
/-- the same but for what is next when nothing is -/
structure Near (a b : St) : Prop where
  e : b = { a with pc := b.pc }
  h : a.kind = 0 → b.pc = a.pc
theorem Near.refl (a : St) : Near a a := ⟨rfl, fun _ => rfl⟩
theorem Near.eq {a b : St} (h : Near a b) (hk : a.kind = 0) : b = a := by
  have h1 := h.e
  rw [h.h hk] at h1
  exact h1
theorem Near.kind {a b : St} (h : Near a b) : b.kind = a.kind := by rw [h.e]
theorem St.act_pc (s : St) (n : Nat) (o : OpI) : ({ s with pc := n } : St).act o = (if (s.act o).2.2 = true then (s.act o).1 else { (s.act o).1 with pc := n }, (s.act o).2) := by
  have e1 : ∀ r, ({ s with pc := n } : St).reg r = s.reg r := fun _ => rfl
  have e2 : elemT { s with pc := n } o = elemT s o := rfl
  have e3 : ∀ m, ({ s with pc := n } : St).arr m = s.arr m := fun _ => rfl
  unfold St.act
  simp only [e1, e2, e3]
  by_cases c1 : o.k = 18
  · simp only [if_pos c1]; rfl
  by_cases c2 : o.k = 19
  · simp only [if_neg c1, if_pos c2]; rfl
  by_cases c3 : o.k = 16 ∨ o.k = 25 ∨ o.k = 17
  · simp only [if_neg c1, if_neg c2, if_pos c3]
    by_cases c4 : elemT s o ≠ 0 ∧ o.k = 25
    · simp only [if_pos c4]; rfl
    by_cases c5 : elemT s o ≠ 0
    · simp only [if_neg c4, if_pos c5]; rfl
    by_cases c6 : o.k = 17
    · simp only [if_neg c4, if_neg c5, if_pos c6]; rfl
    · simp only [if_neg c4, if_neg c5, if_neg c6]; rfl
  simp only [if_neg c1, if_neg c2, if_neg c3]
  by_cases c7 : (s.reg o.a).2 ≠ 0
  · simp only [if_pos c7]; rfl
  by_cases c8 : o.k = 20
  · simp only [if_neg c7, if_pos c8]; rfl
  by_cases c9 : o.k = 21 ∧ (s.reg o.a).1 ≠ 0
  · simp only [if_neg c7, if_neg c8, if_pos c9]; rfl
  · simp only [if_neg c7, if_neg c8, if_neg c9]; rfl
theorem St.doR_pc (s : St) (n : Nat) (o : OpI) : ({ s with pc := n } : St).doR o = (if (s.doR o).2.2 = true then (s.doR o).1 else { (s.doR o).1 with pc := n }, (s.doR o).2) := by
  have e1 : ∀ r, ({ s with pc := n } : St).reg r = s.reg r := fun _ => rfl
  unfold St.doR
  simp only [e1]
  by_cases c1 : o.g ≠ -1 ∧ (s.reg o.g).2 ≠ 0
  · simp only [if_pos c1]; rfl
  by_cases c2 : o.g ≠ -1 ∧ (s.reg o.g).1 = 0
  · simp only [if_neg c1, if_pos c2]; rfl
  by_cases c3 : known o.k = true
  · simp only [if_neg c1, if_neg c2, if_pos c3]
    by_cases c4 : doT0 o.k (s.reg o.a) (s.reg o.b) ≠ 0
    · simp only [if_pos c4]; rfl
    · simp only [if_neg c4]; rfl
  · simp only [if_neg c1, if_neg c2, if_neg c3]
    exact St.act_pc s n o
theorem St.act_keep (s : St) (o : OpI) (h : (s.act o).2.2 = false) : (s.act o).1.pc = s.pc := by
  revert h
  unfold St.act
  repeat' (first | (intro h; rfl) | (intro h; cases h) | split)
theorem St.doR_keep (s : St) (o : OpI) (h : (s.doR o).2.2 = false) : (s.doR o).1.pc = s.pc := by
  revert h
  unfold St.doR
  repeat' (first | (intro h; rfl) | (intro h; cases h) | exact St.act_keep s o | split)
theorem St.trap_near (U : UnS) (s : St) (n : Nat) (v : Int) : Near (s.trap U v) (({ s with pc := n } : St).trap U v) := by
  unfold St.trap
  show Near (if (U.blocks.getD s.bl dBl).ct < 0 then _ else _) (if (U.blocks.getD s.bl dBl).ct < 0 then _ else _)
  by_cases c : (U.blocks.getD s.bl dBl).ct < 0
  · rw [if_pos c, if_pos c]
    exact ⟨rfl, fun h => absurd (show (2 : Int) = 0 from h) (by decide)⟩
  · rw [if_neg c, if_neg c]
    exact ⟨rfl, fun _ => rfl⟩
theorem St.step_near (U : UnS) (s : St) (h : s.pc ≤ (U.blocks.getD s.bl dBl).ops.length) : Near (s.step U) (s.stepR U) := by
  unfold St.step St.stepR
  simp only
  by_cases hp : s.pc = (U.blocks.getD s.bl dBl).ops.length
  · have hn : ¬ s.pc < (U.blocks.getD s.bl dBl).ops.length := by omega
    rw [if_pos hp, if_neg hn]
    exact Near.refl _
  · have hn : s.pc < (U.blocks.getD s.bl dBl).ops.length := by omega
    rw [if_neg hp, if_pos hn]
    have e := St.doR_pc { s with steps := s.steps + 1 } (s.pc + 1) ((U.blocks.getD s.bl dBl).ops.getD s.pc dOp)
    have k := St.doR_keep { s with steps := s.steps + 1 } ((U.blocks.getD s.bl dBl).ops.getD s.pc dOp)
    simp only at e
    rw [e]
    revert k
    generalize St.doR { s with steps := s.steps + 1 } ((U.blocks.getD s.bl dBl).ops.getD s.pc dOp) = r
    obtain ⟨r1, r2, r3⟩ := r
    intro k
    simp only at k ⊢
    cases r3
    · simp only [Bool.false_eq_true, if_false]
      by_cases c : r2 ≠ 0
      · rw [if_pos c, if_pos c]
        exact St.trap_near U r1 _ r2
      · rw [if_neg c, if_neg c, k rfl]
        exact Near.refl _
    · simp only [if_true]
      exact Near.refl _
theorem St.run_near (U : UnS) (G : UnGood U) : ∀ (n : Nat) (s : St), StGood U s → s.steps + n ≤ 1000000000000 → Near (St.run U n s) (St.runR U n s)
  | 0, s, _, _ => Near.refl s
  | n + 1, s, S, hs => by
    by_cases h : s.kind = 0
    · have e1 : St.run U (n + 1) s = St.run U n (s.step U) := if_pos h
      have e2 : St.runR U (n + 1) s = St.runR U n (s.stepR U) := if_pos h
      have hN := St.step_near U s S.pc
      rw [e1, e2]
      by_cases hk : (s.step U).kind = 0
      · rw [hN.eq hk]
        exact St.run_near U G n _ (S.step G (by omega)) (by rw [St.step_steps]; omega)
      · rw [St.run_stop U n _ hk]
        have e3 : ∀ m, St.runR U m (s.stepR U) = s.stepR U := by
          intro m
          cases m with
          | zero => rfl
          | succ m => exact if_neg (by rw [hN.kind]; exact hk)
        rw [e3]
        exact hN
    · have e1 : St.run U (n + 1) s = s := if_neg h
      have e2 : St.runR U (n + 1) s = s := if_neg h
      rw [e1, e2]
      exact Near.refl s
theorem St.runR_stop (U : UnS) : ∀ (n : Nat) (s : St), s.kind ≠ 0 → St.runR U n s = s
  | 0, s, _ => rfl
  | n + 1, s, h => if_neg h
theorem St.runR_succ (U : UnS) : ∀ (n : Nat) (s : St), St.runR U (n + 1) s = if (St.runR U n s).kind = 0 then (St.runR U n s).stepR U else St.runR U n s
  | 0, s => rfl
  | n + 1, s => by
    by_cases h : s.kind = 0
    · have e1 : St.runR U (n + 1 + 1) s = St.runR U (n + 1) (s.stepR U) := if_pos h
      have e2 : St.runR U (n + 1) s = St.runR U n (s.stepR U) := if_pos h
      rw [e1, e2]; exact St.runR_succ U n (s.stepR U)
    · rw [St.runR_stop U _ s h, St.runR_stop U _ s h, if_neg h]
/-- a run of the specification's machine that has not ended is the machine's -/
theorem St.runR_eq (U : UnS) (G : UnGood U) (n : Nat) (s : St) (S : StGood U s) (hs : s.steps + n ≤ 1000000000000) (hk : (St.runR U n s).kind = 0) : St.runR U n s = St.run U n s := by
  have h := St.run_near U G n s S hs
  exact h.eq (by rw [← h.kind]; exact hk)

/-! ### the layout -/
def layR : Lay where
  ty := 66
  cells L U s := #[L.us, .int .i64 U.params, .int .i64 U.regs, .int .i64 U.code, .int .i64 U.spill, L.ub, ownRow L.gr s.regs.length, L.va, ownRow L.gc s.kept.length, .int .i64 s.bl, .int .i64 s.pc, .int .i64 s.steps, L.vp, .int .i64 (kindO s.kind), .int .i64 s.val, .bool (decide (s.kind ≠ 0)), ownRow L.gs s.seen.length, L.vw]
  iP := 12
  iW := 17
  iA := 7
theorem okR : LayOk layR where
  eq := by intro L U s s' h1 h2 h3 h4 h5 h6 h7 h8; simp only [layR, h1, h2, h3, h4, h5, h6, h7, h8]
  vp := fun _ _ _ _ => rfl
  vw := fun _ _ _ _ => rfl
  va := fun _ _ _ _ _ => rfl
  t1 := by decide
  t2 := by decide
  t3 := by decide
  t4 := by decide
  t5 := by decide
section
variable {F : Nat → Prop} {w : World} {p : Nat} {U : UnS} {s : St} {L : EngL} (h : Eng layR F w p U s L)
include h
theorem S0 : w.cell? ⟨p, 0, none⟩ = some L.us := (h.blk.cell 0).trans rfl
theorem S1 : w.cell? ⟨p, 1, none⟩ = some (.int .i64 U.params) := (h.blk.cell 1).trans rfl
theorem S2 : w.cell? ⟨p, 2, none⟩ = some (.int .i64 U.regs) := (h.blk.cell 2).trans rfl
theorem S3 : w.cell? ⟨p, 3, none⟩ = some (.int .i64 U.code) := (h.blk.cell 3).trans rfl
theorem S4 : w.cell? ⟨p, 4, none⟩ = some (.int .i64 U.spill) := (h.blk.cell 4).trans rfl
theorem S5 : w.cell? ⟨p, 5, none⟩ = some L.ub := (h.blk.cell 5).trans rfl
theorem S6 : w.cell? ⟨p, 6, none⟩ = some (.slice (some ⟨L.gr, 0, none⟩) s.regs.length s.regs.length) := (h.blk.cell 6).trans rfl
theorem S7 : w.cell? ⟨p, 7, none⟩ = some L.va := (h.blk.cell 7).trans rfl
theorem S8 : w.cell? ⟨p, 8, none⟩ = some (.slice (some ⟨L.gc, 0, none⟩) s.kept.length s.kept.length) := (h.blk.cell 8).trans rfl
theorem S9 : w.cell? ⟨p, 9, none⟩ = some (.int .i64 s.bl) := (h.blk.cell 9).trans rfl
theorem S10 : w.cell? ⟨p, 10, none⟩ = some (.int .i64 s.pc) := (h.blk.cell 10).trans rfl
theorem S11 : w.cell? ⟨p, 11, none⟩ = some (.int .i64 s.steps) := (h.blk.cell 11).trans rfl
theorem S12 : w.cell? ⟨p, 12, none⟩ = some L.vp := (h.blk.cell 12).trans rfl
theorem S13 : w.cell? ⟨p, 13, none⟩ = some (.int .i64 (kindO s.kind)) := (h.blk.cell 13).trans rfl
theorem S14 : w.cell? ⟨p, 14, none⟩ = some (.int .i64 s.val) := (h.blk.cell 14).trans rfl
theorem S15 : w.cell? ⟨p, 15, none⟩ = some (.bool (decide (s.kind ≠ 0))) := (h.blk.cell 15).trans rfl
theorem S16 : w.cell? ⟨p, 16, none⟩ = some (.slice (some ⟨L.gs, 0, none⟩) s.seen.length s.seen.length) := (h.blk.cell 16).trans rfl
theorem S17 : w.cell? ⟨p, 17, none⟩ = some L.vw := (h.blk.cell 17).trans rfl
end
section
variable {F : Nat → Prop} {w0 w : World} {M0 : Nat → Prop} {p : Nat} {U : UnS} {s : St} {L : EngL}
theorem EngQ.endR (Q : EngQ layR F w0 M0 w p U s L) (k v : Int) (hk : k = 1 ∨ k = 2) : EngQ layR F w0 M0 (((w.setCell ⟨p, 13, none⟩ (.int .i64 k)).setCell ⟨p, 14, none⟩ (.int .i64 v)).setCell ⟨p, 15, none⟩ (.bool true)) p U { s with kind := k, val := v } L :=
  Q.newP okR (s' := { s with kind := k, val := v }) (Fr.three _ _ _ _ _ _ _ _) (by
    have h := ((Q.e.blk.set_ 13 (.int .i64 k)).set_ 14 (.int .i64 v)).set_ 15 (.bool true)
    have e1 : kindO k = k := by unfold kindO; rw [if_neg (by omega)]
    have e2 : decide (k ≠ 0) = true := decide_eq_true (by omega)
    have e : layR.cells L U { s with kind := k, val := v } = (((layR.cells L U s).setIfInBounds 13 (.int .i64 k)).setIfInBounds 14 (.int .i64 v)).setIfInBounds 15 (.bool true) := by
      simp only [layR, e1, e2]; rfl
    rw [e]; exact h) rfl rfl rfl rfl rfl rfl
theorem EngQ.pcR (Q : EngQ layR F w0 M0 w p U s L) (n : Nat) : EngQ layR F w0 M0 (w.setCell ⟨p, 10, none⟩ (.int .i64 n)) p U { s with pc := n } L :=
  Q.newP okR (s' := { s with pc := n }) (Fr.one _ _ _ _) (Q.e.blk.set_ 10 (.int .i64 n)) rfl rfl rfl rfl rfl rfl
theorem EngQ.stepsR (Q : EngQ layR F w0 M0 w p U s L) (n : Int) : EngQ layR F w0 M0 (w.setCell ⟨p, 11, none⟩ (.int .i64 n)) p U { s with steps := n } L :=
  Q.newP okR (s' := { s with steps := n }) (Fr.one _ _ _ _) (Q.e.blk.set_ 11 (.int .i64 n)) rfl rfl rfl rfl rfl rfl
end
end Go.Proofs.YtfkjkdoloamakaaDoor
