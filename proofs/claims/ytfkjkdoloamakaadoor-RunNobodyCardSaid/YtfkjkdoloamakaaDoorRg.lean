/- What trap of package run does: the state is St.trap. -/
import Derived.Test.YtfkjkdoloamakaaDoorRf
import Derived.BigRegion
namespace Go.Proofs.YtfkjkdoloamakaaDoor
open Go.RowKit
set_option linter.unusedVariables false
variable {F : Nat → Prop} {w0 w : World} {M0 : Nat → Prop} {p : Nat} {U : UnS} {s : St}

theorem EngQ.endP {L : EngL} (Q : EngQ layP F w0 M0 w p U s L) (k v : Int) : EngQ layP F w0 M0 ((w.setCell ⟨p, 13, none⟩ (.int .i64 k)).setCell ⟨p, 14, none⟩ (.int .i64 v)) p U { s with kind := k, val := v } L :=
  Q.newP okP (s' := { s with kind := k, val := v }) (Fr.two _ _ _ _ _ _) ((Q.e.blk.set_ 13 (.int .i64 k)).set_ 14 (.int .i64 v)) rfl rfl rfl rfl rfl rfl
theorem EngQ.pcP {L : EngL} (Q : EngQ layP F w0 M0 w p U s L) (n : Nat) : EngQ layP F w0 M0 (w.setCell ⟨p, 11, none⟩ (.int .i64 n)) p U { s with pc := n } L :=
  Q.newP okP (s' := { s with pc := n }) (Fr.one _ _ _ _) (Q.e.blk.set_ 11 (.int .i64 n)) rfl rfl rfl rfl rfl rfl
theorem EngQ.stepsP {L : EngL} (Q : EngQ layP F w0 M0 w p U s L) (n : Int) : EngQ layP F w0 M0 (w.setCell ⟨p, 12, none⟩ (.int .i64 n)) p U { s with steps := n } L :=
  Q.newP okP (s' := { s with steps := n }) (Fr.one _ _ _ _) (Q.e.blk.set_ 12 (.int .i64 n)) rfl rfl rfl rfl rfl rfl
/-- the blocks' row, at a block -/
theorem code_at {F : Nat → Prop} {w : World} {vb : Value} {bs : List BlkS} (h : RdBlocks F w vb bs) (i : Nat) (hi : i < bs.length) :
    ∃ g o c A n cc, vb = .slice (some ⟨g, o, none⟩) bs.length c ∧ n = (bs.getD i dBl).ops.length ∧ w.cell? ⟨g, o + i * 6, none⟩ = some (.slice A n cc) ∧ w.cell? ⟨g, o + i * 6 + 1, none⟩ = some (.int .i64 (bs.getD i dBl).ed.k) ∧ w.cell? ⟨g, o + i * 6 + 2, none⟩ = some (.int .i64 (bs.getD i dBl).ed.a) ∧ w.cell? ⟨g, o + i * 6 + 3, none⟩ = some (.int .i64 (bs.getD i dBl).ed.t) ∧ w.cell? ⟨g, o + i * 6 + 4, none⟩ = some (.int .i64 (bs.getD i dBl).ed.l) ∧ w.cell? ⟨g, o + i * 6 + 5, none⟩ = some (.int .i64 (bs.getD i dBl).ct) ∧
      (∀ k (_ : k < n), ∃ g' o', A = some ⟨g', o', none⟩ ∧ w.cell? ⟨g', o' + k * 7, none⟩ = some (.int .i64 ((bs.getD i dBl).ops.getD k dOp).k) ∧ w.cell? ⟨g', o' + k * 7 + 1, none⟩ = some (.int .i64 ((bs.getD i dBl).ops.getD k dOp).d) ∧ w.cell? ⟨g', o' + k * 7 + 2, none⟩ = some (.int .i64 ((bs.getD i dBl).ops.getD k dOp).a) ∧ w.cell? ⟨g', o' + k * 7 + 3, none⟩ = some (.int .i64 ((bs.getD i dBl).ops.getD k dOp).b) ∧ w.cell? ⟨g', o' + k * 7 + 4, none⟩ = some (.int .i64 ((bs.getD i dBl).ops.getD k dOp).c) ∧ w.cell? ⟨g', o' + k * 7 + 5, none⟩ = some (.int .i64 ((bs.getD i dBl).ops.getD k dOp).n) ∧ w.cell? ⟨g', o' + k * 7 + 6, none⟩ = some (.int .i64 ((bs.getD i dBl).ops.getD k dOp).g)) := by
  obtain ⟨vs, hl, ⟨_, A0, c0, e0, _, _, h1⟩, h2⟩ := h
  obtain ⟨g, o, rfl, _, _, hc⟩ := h1 (by omega)
  obtain ⟨ho, A, c, e2, _, _, h3⟩ := h2 i hi
  have eb : bs[i] = bs.getD i dBl := by rw [List.getD_eq_getElem?_getD, List.getElem?_eq_getElem hi]; rfl
  rw [eb] at ho e2 h3
  have hb := blsC_at vs bs hl i hi
  have cell : ∀ j u, j < 6 → (vs.getD i .nilFunc :: edC (bs.getD i dBl).ed ++ [Value.int .i64 (bs.getD i dBl).ct])[j]? = some u → w.cell? ⟨g, o + i * 6 + j, none⟩ = some u := fun j u hj hu => by
    have := hc (i * 6 + j) u ((hb j hj).trans hu)
    rwa [← Nat.add_assoc] at this
  refine ⟨g, o, c0, A, _, c, e0, rfl, ?_, cell 1 _ (by omega) rfl, cell 2 _ (by omega) rfl, cell 3 _ (by omega) rfl, cell 4 _ (by omega) rfl, cell 5 _ (by omega) rfl, fun k hk => ?_⟩
  · have := cell 0 _ (by omega) rfl
    rw [e2] at this; simpa using this
  · obtain ⟨g', o', rfl, _, _, hc'⟩ := h3 (by omega)
    have hop := opsC_at (bs.getD i dBl).ops k hk
    have cell' : ∀ j u, j < 7 → (opC ((bs.getD i dBl).ops.getD k dOp))[j]? = some u → w.cell? ⟨g', o' + k * 7 + j, none⟩ = some u := fun j u hj hu => by
      have := hc' (k * 7 + j) u ((hop j hj).trans hu)
      rwa [← Nat.add_assoc] at this
    exact ⟨g', o', rfl, cell' 0 _ (by omega) rfl, cell' 1 _ (by omega) rfl, cell' 2 _ (by omega) rfl, cell' 3 _ (by omega) rfl, cell' 4 _ (by omega) rfl, cell' 5 _ (by omega) rfl, cell' 6 _ (by omega) rfl⟩

set_option maxRecDepth 100000 in
set_option maxHeartbeats 1000000 in
theorem trap_any (G : UnGood U) (S : StGood U s) (E : EngX layP F w0 M0 w p U s) (n : Int) :
    Calls Tryd.prog 79 #[.pointer (some ⟨p, 0, none⟩), .int .i64 n] w fun e w' => e = .returned (.tuple #[]) ∧ EngX layP F w0 M0 w' p U (s.trap U n) := by
  obtain ⟨L, Q⟩ := E
  obtain ⟨g, o, c, A, nn, cc, eb, _, _, _, _, _, _, c5, _⟩ := code_at Q.e.code s.bl S.bl
  have h5 := P5 Q.e
  rw [eb] at h5
  have h10 := P10 Q.e
  have h13 := P13 Q.e
  have h14 := P14 Q.e
  have f13 := Q.e.blk.frozen 13
  have f14 := Q.e.blk.frozen 14
  have hbl := S.bl
  have hmb := G.mb
  obtain ⟨ct, hct⟩ : ∃ ct, ct = (U.blocks.getD s.bl dBl).ct := ⟨_, rfl⟩
  rw [← hct] at c5
  by_cases hn : ct < 0
  · have HN := Lib.hid (show s.trap U n = { s with kind := 2, val := n } by simp only [St.trap, ← hct, hn, if_true])
    have HQ := Lib.hid Q
    clear hct Q eb
    go_enter Tryd.func79, Tryd.ntmps79
    go_wp2
    go_quiet (fail)
    go_wp2
    first | go_end0 | refine bodyPost_ret (results_none rfl _ _ _) rfl ?_
    refine ⟨rfl, ?_⟩
    rw [HN.out]
    exact ((HQ.out.drewN nq).endP 2 n).x
  · have hct1 : inR ct U.blocks.length := by
      rcases (G.bls _ (List.getElem_mem S.bl)).ct with h | h
      · exfalso; apply hn; rw [hct, List.getD_eq_getElem?_getD, List.getElem?_eq_getElem S.bl]; simp only [Option.getD_some]; omega
      · rw [hct, List.getD_eq_getElem?_getD, List.getElem?_eq_getElem S.bl]; exact h
    obtain ⟨hc0, hc1⟩ := hct1
    have HN := Lib.hid (show s.trap U n = (s.put U.code (n, 0)).enter ct.toNat by simp only [St.trap, ← hct, hn, if_false])
    obtain ⟨hd0, hd1⟩ := G.cd
    have hr := S.regs
    have h3 := P3 Q.e
    have h6 := P6 Q.e
    have hr1 : U.code < s.regs.length := by omega
    have r0 := reg0 Q.e hd0 hr1
    have r1 := reg1 Q.e hd0 hr1
    have g0 := Q.e.regs.frozen (U.code.toNat * 2)
    have g1 := Q.e.regs.frozen (U.code.toNat * 2 + 1)
    obtain ⟨a0, ha0⟩ : ∃ a0, a0 = (s.reg U.code).1 := ⟨_, rfl⟩
    obtain ⟨a1, ha1⟩ : ∃ a1, a1 = (s.reg U.code).2 := ⟨_, rfl⟩
    rw [← ha0] at r0; rw [← ha1] at r1
    have hrl : s.regs.length ≤ 4096 := by have := G.r2; omega
    have HQ := Lib.hid Q
    have HW := Lib.hid S.ways
    have HL : Hid (ct < (s.put U.code (n, 0)).seen.length) := by show ct < s.seen.length; rw [S.seen]; exact hc1
    clear hct Q eb ha0 ha1 hr
    go_enter Tryd.func79, Tryd.ntmps79
    go_wp2
    go_quiet (fail)
    go_wp2_with fail
    go_region
    go_wp2_with (go_at_call 97; refine (enter_any ((HQ.out.drewN (nq + 1)).newReg okP U.code.toNat (n, 0)).x ct hc0 HL.out HW.out).mono ?_; rintro e w' ⟨rfl, E'⟩)
    go_end0
    rw [HN.out]
    exact ⟨rfl, E'⟩
end Go.Proofs.YtfkjkdoloamakaaDoor
