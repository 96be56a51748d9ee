/- Go of the specification's Engine: the state is St.runR. -/
import Derived.Test.YtfkjkdoloamakaaDoorTj
import Derived.Test.YtfkjkdoloamakaaDoorTl
namespace Go.Proofs.YtfkjkdoloamakaaDoor
open Go.RowKit
set_option linter.unusedVariables false
set_option linter.unusedSimpArgs false
variable {F : Nat → Prop} {w0 w : World} {M0 : Nat → Prop} {p : Nat} {U : UnS} {s : St}

theorem St.stepR_op (U : UnS) (t : St) (h : t.pc < (U.blocks.getD t.bl dBl).ops.length) : t.stepR U = ({ ({ t with steps := t.steps + 1 } : St) with pc := ({ t with steps := t.steps + 1 } : St).pc + 1 } : St).opD U ((U.blocks.getD t.bl dBl).ops.getD t.pc dOp) := by
  unfold St.stepR St.opD
  rw [if_pos h]
theorem St.runR_add (U : UnS) : ∀ (m n : Nat) (s : St), St.runR U (m + n) s = St.runR U n (St.runR U m s)
  | 0, n, s => by rw [Nat.zero_add]; rfl
  | m + 1, n, s => by
    by_cases h : s.kind = 0
    · rw [show m + 1 + n = (m + n) + 1 by omega]
      have e1 : St.runR U (m + n + 1) s = St.runR U (m + n) (s.stepR U) := if_pos h
      have e2 : St.runR U (m + 1) s = St.runR U m (s.stepR U) := if_pos h
      rw [e1, e2]; exact St.runR_add U m n (s.stepR U)
    · rw [St.runR_stop U _ s h, St.runR_stop U _ s h, St.runR_stop U _ s h]
theorem St.stepR_last (U : UnS) (t : St) (h : ¬ t.pc < (U.blocks.getD t.bl dBl).ops.length) : t.stepR U = ({ t with steps := t.steps + 1 } : St).leave U (U.blocks.getD t.bl dBl).ed := by
  unfold St.stepR
  rw [if_neg h]

set_option maxRecDepth 100000 in
set_option maxHeartbeats 4000000 in
theorem rgo_any (G : UnGood U) (S : StGood U s) (E : EngX layR F w0 M0 w p U s) (n : Int) (h0 : 0 ≤ n) (h1 : n ≤ 4194304) (hs : s.steps ≤ 4194304) :
    Calls Tryd.prog 27 #[.pointer (some ⟨p, 0, none⟩), .int .i64 n] w fun e w' => e = .returned (.tuple #[]) ∧ EngX layR F w0 M0 w' p U (St.runR U n.toNat s) := by
  have hs0 := S.st0
  have HG := Lib.hid G
  have HS := Lib.hid S
  have HE := Lib.hid E
  clear G S E
  go_enter Tryd.func27, Tryd.ntmps27
  go_wp2
  go_loopw [4] (fun v4 wz => ∃ k : Nat, (k : Int) ≤ n ∧ v4 = .int .i64 k ∧ EngX layR F w0 M0 wz p U (St.runR U k s)) (fun v4 _ => n.toNat - (intOf v4).toNat)
  case atStart => exact ⟨0, h0, rfl, HE.out⟩
  case round =>
    obtain ⟨k, hk, rfl, E'⟩ := hrel
    rename World => wz
    by_cases hkn : (k : Int) < n
    · obtain ⟨L, Q⟩ := E'
      have c15 := S15 Q.e
      by_cases hkd : (St.runR U k s).kind = 0
      · have hrun := St.runR_eq U HG.out k s HS.out (by omega) hkd
        have hSt : StGood U (St.runR U k s) := by rw [hrun]; exact StGood.run HG.out k s HS.out (by omega)
        have hst := (St.run_steps U k s).2
        rw [← hrun] at hst
        have HNX : Hid (St.runR U (k + 1) s = (St.runR U k s).stepR U) := Lib.hid (by rw [St.runR_succ, if_pos hkd])
        have hd : decide ((St.runR U k s).kind ≠ 0) = false := decide_eq_false (fun h => h hkd)
        rw [hd] at c15
        obtain ⟨t, ht⟩ : ∃ t, t = St.runR U k s := ⟨_, rfl⟩
        rw [← ht] at Q hSt hst HNX
        obtain ⟨tn, htn⟩ : ∃ t', t' = t.stepR U := ⟨_, rfl⟩
        rw [← htn] at HNX
        have HTN := Lib.hid htn
        clear ht hrun hkd hd htn
        have hst0 := hSt.st0
        have Sc := hSt.count (by omega)
        obtain ⟨g, o, c, A, nn, cc, eb, en, d0, d1, d2, d3, d4, d5, hops⟩ := code_at Q.e.code t.bl hSt.bl
        have hnn : nn ≤ 400 := by rw [en]; exact (hSt.blk HG.out).len
        have hgF := code_F Q.e.code hSt.bl eb
        have hgp : g ≠ p := fun e => Q.e.away g hgF (.inl e)
        have hgp' := hgp.symm
        have lgw : g < wz.heap.size := Q.e.flt g hgF
        have lpw : p < wz.heap.size := Q.e.blk.lt
        have c5 := S5 Q.e
        rw [eb] at c5
        have c9 := S9 Q.e
        have c10 := S10 Q.e
        have c11 := S11 Q.e
        have f11 := Q.e.blk.frozen 11
        have hbl := hSt.bl
        have hmb := HG.out.mb
        have hpcb : t.pc ≤ nn := by rw [en]; exact hSt.pc
        obtain ⟨st, hse⟩ : ∃ st, st = t.steps := ⟨_, rfl⟩
        have Q1 := Q.stepsR (t.steps + 1)
        obtain ⟨sc, hsc⟩ : ∃ x, x = ({ t with steps := t.steps + 1 } : St) := ⟨_, rfl⟩
        rw [← hsc] at Q1 Sc
        rw [← hse] at c11 Q1 hst hst0
        have HSC := Lib.hid hsc
        obtain ⟨pc, hpc⟩ : ∃ pc, pc = t.pc := ⟨_, rfl⟩
        rw [← hpc] at c10 hpcb
        obtain ⟨bl, hble⟩ : ∃ bl, bl = t.bl := ⟨_, rfl⟩
        rw [← hble] at c9 hbl d0 d1 d2 d3 d4 d5
        obtain ⟨⟨ek, ea, et, el⟩, hed⟩ : ∃ e, e = (U.blocks.getD bl dBl).ed := ⟨_, rfl⟩
        rw [← hed] at d1 d2 d3 d4
        simp only at d1 d2 d3 d4
        obtain ⟨ct, hct⟩ : ∃ e, e = (U.blocks.getD bl dBl).ct := ⟨_, rfl⟩
        rw [← hct] at d5
        obtain ⟨W1, hW1⟩ : ∃ W, W = wz.setCell ⟨p, 11, none⟩ (.int .i64 (st + 1)) := ⟨_, rfl⟩
        rw [← hW1] at Q1
        have hf1 : Fr (fun b => b = p) wz W1 := by rw [hW1]; exact Fr.one _ _ _ _
        have hz1 : W1.heap.size = wz.heap.size := by rw [hW1]; simp
        have m0 := hf1.cell d0 hgp
        have m1 := hf1.cell d1 hgp
        have m2 := hf1.cell d2 hgp
        have m3 := hf1.cell d3 hgp
        have m4 := hf1.cell d4 hgp
        have m5 := hf1.cell d5 hgp
        have j5 := S5 Q1.e
        rw [eb] at j5
        have j9 : W1.cell? ⟨p, 9, none⟩ = some (.int .i64 bl) := by rw [hble]; have h := S9 Q1.e; rw [hsc] at h; exact h
        have lp1 : p < W1.heap.size := Q1.e.blk.lt
        have lg1 : g < W1.heap.size := by omega
        have np1 : p ≠ W1.heap.size := by omega
        have np1' := np1.symm
        have ng1 : g ≠ W1.heap.size := by omega
        have ng1' := ng1.symm
        have HQ1 := Lib.hid Q1
        have HW1 := Lib.hid hW1
        have HSc := Lib.hid Sc
        have HST := Lib.hid hSt
        have HOPS := Lib.hid hops
        have HEN := Lib.hid en
        have HED := Lib.hid hed
        have HPC := Lib.hid hpc
        have HBL := Lib.hid hble
        have HF1 := Lib.hid hf1
        have HSE := Lib.hid hse
        have HEB := Lib.hid eb
        have HC0 := Lib.hid d0
        have HQ := Lib.hid Q
        clear Q Q1 hW1 Sc hSt hops en hed hpc hble hf1 hse hsc eb hz1 hct d0 d1 d2 d3 d4 d5 hgF
        go_upto_region 4 with fail
        rw [← HW1.out]
        go_cut [5] from 6 to 57 (fun v5 wx => v5 = .pointer (some ⟨W1.heap.size, 0, none⟩) ∧ Blk wx W1.heap.size 73 #[.slice A nn cc, .int .i64 ek, .int .i64 ea, .int .i64 et, .int .i64 el, .int .i64 ct] ∧ Below W1.heap.size W1 wx)
        case first => as_aux_lemma =>
          go_region
          go_wp2
          go_meet
          refine ⟨rfl, blk_new _ rfl _ _, ?_⟩
          repeat' (first | (with_reducible exact Below.refl _ _) | (with_reducible refine drewN_below ?_ _) | (with_reducible refine Below.drew ?_) | (with_reducible refine Below.alloc ?_ ?_ _) | (with_reducible refine Below.setCell ?_ ?_ _) | (simp only; omega) | go_size)
        case rest =>
          obtain ⟨rfl, hbk, hb1⟩ := hcut
          have b0 : wc.cell? ⟨W1.heap.size, 0, none⟩ = some (.slice A nn cc) := (hbk.cell 0).trans rfl
          have b1 : wc.cell? ⟨W1.heap.size, 1, none⟩ = some (.int .i64 ek) := (hbk.cell 1).trans rfl
          have b2 : wc.cell? ⟨W1.heap.size, 2, none⟩ = some (.int .i64 ea) := (hbk.cell 2).trans rfl
          have b3 : wc.cell? ⟨W1.heap.size, 3, none⟩ = some (.int .i64 et) := (hbk.cell 3).trans rfl
          have b4 : wc.cell? ⟨W1.heap.size, 4, none⟩ = some (.int .i64 el) := (hbk.cell 4).trans rfl
          have HQ2 := Lib.hid (HQ1.out.below hb1)
          have n10 : wc.cell? ⟨p, 10, none⟩ = some (.int .i64 pc) := by rw [HPC.out]; have h := S10 HQ2.out.e; rw [HSC.out] at h; exact h
          clear c5 c9 c10 c11 c15 f11 m0 m1 m2 m3 m4 m5 j5 j9 hbk
          by_cases he : pc < nn
          · have heI : (pc : Int) < nn := by omega
            obtain ⟨g', o', rfl, u0, u1, u2, u3, u4, u5, u6⟩ := HOPS.out t.pc (by rw [← HPC.out]; exact he)
            have hgF2 : F g' := by
              exact code_F2 HQ.out.e.code HST.out.bl HEB.out (o' := o') (n := nn) (cc := cc) (by rw [← HBL.out]; exact HC0.out) (by rw [← HEN.out]; omega)
            have hg2p : g' ≠ p := fun e => HQ.out.e.away g' hgF2 (.inl e)
            have tr : ∀ {j : Nat} {v : Value}, wz.cell? ⟨g', j, none⟩ = some v → wc.cell? ⟨g', j, none⟩ = some v := fun h => (hb1.cell (by have := lt_cell h; have := HF1.out.size; simp only; omega)).trans (HF1.out.cell h hg2p)
            rw [← HPC.out] at u0 u1 u2 u3 u4 u5 u6
            replace u0 := tr u0
            replace u1 := tr u1
            replace u2 := tr u2
            replace u3 := tr u3
            replace u4 := tr u4
            replace u5 := tr u5
            replace u6 := tr u6
            have hO := HST.out.op HG.out (by rw [← HPC.out, ← HEN.out]; exact he)
            have hop := fun (W : World) (E2 : EngX layR F w0 M0 W p U sc) => rdoop_any HG.out HSc.out E2 _ hO (by rw [HSC.out]; show t.pc < _; rw [← HPC.out, ← HEN.out]; exact he) (by rw [HSC.out]; show t.pc ≤ 400; rw [← HPC.out]; omega)
            have hsf := St.stepR_op U t (by rw [← HPC.out, ← HEN.out]; exact he)
            rw [← HSC.out] at hsf
            rw [← hsf, ← HTN.out] at hop
            obtain ⟨op, hope⟩ : ∃ op, op = (U.blocks.getD t.bl dBl).ops.getD t.pc dOp := ⟨_, rfl⟩
            rw [← HPC.out] at hope hop
            rw [← hope] at u0 u1 u2 u3 u4 u5 u6 hop
            obtain ⟨kk, od, oa, ob, oc, on, og⟩ := op
            unfold opV at hop
            simp only at u0 u1 u2 u3 u4 u5 u6 hop
            have HOP := Lib.hid hop
            clear hop hsf hO hope tr hb1
            go_wp2
            go_quiet (fail)
            go_wp2
            go_region_with (first | (go_at_call 54; refine (HOP.out _ (HQ2.out.drewN _).x).mono ?_; rintro e w2 ⟨rfl, E2⟩))
            all_goals
              go_wp2
              go_roundw
              case rel => exact ⟨k + 1, by omega, by go_num, by rw [HNX.out]; exact E2⟩
              case measure => simp [intOf]; omega
          · have heI : ¬ (pc : Int) < nn := by omega
            have hx := (HST.out.blk HG.out).ed
            have hla := fun (W : World) (E2 : EngX layR F w0 M0 W p U sc) => rlast_any HG.out HSc.out E2 _ hx
            have hsf := St.stepR_last U t (by rw [← HPC.out, ← HEN.out]; exact he)
            rw [← HSC.out] at hsf
            rw [← hsf, ← HTN.out, ← HBL.out, ← HED.out] at hla
            unfold edV at hla
            simp only at hla
            have HLA := Lib.hid hla
            clear hla hsf hx hb1
            go_wp2
            go_quiet (fail)
            go_wp2_with (go_at_call 55; refine (HLA.out _ (HQ2.out.drewN _).x).mono ?_; rintro e w2 ⟨rfl, E2⟩)
            go_roundw
            case rel => exact ⟨k + 1, by omega, by go_num, by rw [HNX.out]; exact E2⟩
            case measure => simp [intOf]; omega
      · have hd : decide ((St.runR U k s).kind ≠ 0) = true := decide_eq_true hkd
        rw [hd] at c15
        have HX : Hid (St.runR U n.toNat s = St.runR U k s) := Lib.hid (by
          rw [show n.toNat = k + (n.toNat - k) by omega, St.runR_add, St.runR_stop U _ _ hkd])
        have HQ := Lib.hid Q
        clear Q hd hkd
        go_wp2
        first | go_end0 | refine bodyPost_ret (results_none rfl _ _ _) rfl ?_
        rw [HX.out]
        exact ⟨rfl, HQ.out.x⟩
    · obtain rfl : (k : Int) = n := by omega
      have HE' := Lib.hid E'
      clear E'
      go_wp2
      first | go_end0 | refine bodyPost_ret (results_none rfl _ _ _) rfl ?_
      exact ⟨rfl, HE'.out⟩
end Go.Proofs.YtfkjkdoloamakaaDoor
