/- RunProfile, walked, where Check says OK. -/
import Derived.Test.YtfkjkdoloamakaaDoorKd
import Derived.StillTailTactics
namespace Go.Proofs.YtfkjkdoloamakaaDoor
open Go.RowKit
set_option linter.unusedVariables false
set_option linter.unusedSimpArgs false
variable {w : World} {F F2 F3 : Nat → Prop} {U : UnS} {Av Ab : Option Addr} {cv cb : Nat}

set_option maxRecDepth 100000 in
set_option maxHeartbeats 4000000 in
theorem profile_yes (hu : UnIn F w U Av cv Ab cb) (V : Env w) (hz1 : U.sizes.length ≤ 17592186044416) (hz2 : U.blocks.length * 64 ≤ 140737488355328) (hz3 : ∀ b ∈ U.blocks, b.ops.length * 56 ≤ 140737488355328)
    (args : List Int) (Aa : Option Addr) (ca : Nat) (hA : Row F2 w (.slice Aa args.length ca) args.length 1 (numV args)) (hal : args.length ≤ maxLen) (y : Int) (hy0 : 0 ≤ y) (hy1 : y ≤ 65535) (hE : unErr (smallU U) = 0) :
    Calls Tryd.prog 7 #[unV U Av cv Ab cb, .slice Aa args.length ca, .int .u16 y] w fun x w' => x = .returned (.bool true) ∧ Below w.heap.size w w' := by
  obtain ⟨W0, hW0⟩ : ∃ W0, W0 = w.alloc (.cells (unC U Av cv Ab cb) 25) := ⟨_, rfl⟩
  have hb0 : Below w.heap.size w W0 := by rw [hW0]; exact (Below.refl _ _).alloc (Nat.le_refl _) _
  have hsm := small_any (hu.below hb0) hz1 hz2 hz3
  obtain ⟨S, hS⟩ : ∃ S, S = smallU U := ⟨_, rfl⟩
  have z1 := small_sizes U
  have z2 := small_blocks U
  have z3 := small_ops U
  rw [← hS] at hsm z1 z2 z3 hE
  obtain ⟨l, hl0⟩ : ∃ l, l = ownL args (ownN S) := ⟨_, rfl⟩
  have hl1 : ownN S = l.length := by rw [hl0, ownL_length]
  have hl3 : l.length ≤ 4294967296 := by rw [← hl1]; unfold ownN; omega
  obtain ⟨r, hr⟩ : ∃ r, r = y.tmod 20000 := ⟨_, rfl⟩
  have hr0 : 0 ≤ r := by rw [hr]; exact Int.tmod_nonneg _ hy0
  have hr1 : r ≤ 19999 := by have := Int.tmod_lt_of_pos y (show (0 : Int) < 20000 by decide); omega
  have hr2 : r ≤ 4194304 := by omega
  have hrs := hr.symm
  have HWR : Hid ((IntKind.i64.wrap y).tmod 20000 = r) := Lib.hid (by rw [hr, show IntKind.i64.wrap y = y by simp [IntKind.wrap, IntKind.bits, IntKind.signed]; omega])
  have HW0 := Lib.hid hW0
  have H0 := Lib.hid hb0
  have HSM := Lib.hid hsm
  have HV := Lib.hid V
  have HA := Lib.hid (show Row (fun g => g < w.heap.size) w (.slice Aa args.length ca) args.length 1 (numV args) from hA.mono fun _ _ h => h)
  have HAL := Lib.hid hal
  have HL1 := Lib.hid hl0.symm
  have HL2 := Lib.hid hl1
  have HL3 := Lib.hid hl3
  have hfine := un_zero hE
  have hG := fine_good hfine
  have hl4 : (l.length : Int) = S.params := by rw [hl0]; exact (own_len hfine args).1
  have hS0 := StGood.init hG l (by obtain ⟨_, _, p2⟩ := hG.par; omega)
  obtain ⟨sF, hsF⟩ : ∃ sF, sF = St.run S r.toNat (St.init S l) := ⟨_, rfl⟩
  have hst0 : (St.init S l).steps = 0 := rfl
  have hst : sF.steps ≤ 19999 := by have := (St.run_steps S r.toNat (St.init S l)).2; rw [← hsF, hst0] at this; omega
  have hP : Prof S sF := by rw [hsF]; exact Prof.run hG _ _ hS0 (Prof.init hG l) (by rw [hst0]; omega)
  obtain ⟨nw, hnw⟩ : ∃ nw, nw = sF.ways.length := ⟨_, rfl⟩
  have hway0 : (numV sF.ways)[0]? = some (.int .i64 0) := by rw [numV, List.getElem?_map, hP.head]; rfl
  have hnw0 : 0 < nw := by rw [hnw]; rcases Nat.eq_zero_or_pos sF.ways.length with h | h; (have e := hP.head; rw [List.eq_nil_of_length_eq_zero h] at e; cases e); exact h
  have HG := Lib.hid hG
  have HP := Lib.hid hP
  have HL4 := Lib.hid hl4
  have HSF := Lib.hid hsF.symm
  have HNW := Lib.hid hnw.symm
  have HNB := Lib.hid hP.len
  have HWAY := Lib.hid hway0
  have hnb0 := hG.nb
  have HE := Lib.hid hE
  clear hfine hG hS0 hP hl4 hsF hst0 hway0 hnw
  clear hu V hS hsm hb0 hW0 hA hal hl0 hl1 hl3 hr hE
  unfold unV unC at *
  go_enter Tryd.func7, Tryd.ntmps7
  go_upto_region 2 with ((go_at_call 10; go_loud (rw [← HW0.out]; refine HSM.out.mono ?_; rintro x w1 ⟨A, c, A2, c2, rfl, hun, hb⟩; obtain ⟨W1, hW1⟩ : ∃ W1, W1 = w1.alloc (.cells #[.slice A S.sizes.length c, .int .i64 S.params, .int .i64 S.regs, .int .i64 S.code, .int .i64 S.spill, .slice A2 S.blocks.length c2] 25) := ⟨_, rfl⟩; have hb1 : Below w.heap.size w w1 := H0.out.trans (hb.mono H0.out.size); have hbW : Below w.heap.size w W1 := hW1 ▸ hb1.alloc hb1.size _; have hunW : UnIn (fun g => g < w1.heap.size) W1 S A c A2 c2 := hW1 ▸ (hun.mono (fun g hg hlt => hlt) (fun g hg => hg)).below ((Below.refl _ _).alloc (Nat.le_refl _) _); have hbl : Blk W1 w1.heap.size 25 #[.slice A S.sizes.length c, .int .i64 S.params, .int .i64 S.regs, .int .i64 S.code, .int .i64 S.spill, .slice A2 S.blocks.length c2] := hW1 ▸ blk_new _ rfl _ _; have q0 : W1.cell? ⟨w1.heap.size, 0, none⟩ = some (.slice A S.sizes.length c) := (hbl.cell 0).trans rfl; have q1 : W1.cell? ⟨w1.heap.size, 1, none⟩ = some (.int .i64 S.params) := (hbl.cell 1).trans rfl; have q2 : W1.cell? ⟨w1.heap.size, 2, none⟩ = some (.int .i64 S.regs) := (hbl.cell 2).trans rfl; have q3 : W1.cell? ⟨w1.heap.size, 3, none⟩ = some (.int .i64 S.code) := (hbl.cell 3).trans rfl; have q4 : W1.cell? ⟨w1.heap.size, 4, none⟩ = some (.int .i64 S.spill) := (hbl.cell 4).trans rfl; have q5 : W1.cell? ⟨w1.heap.size, 5, none⟩ = some (.slice A2 S.blocks.length c2) := (hbl.cell 5).trans rfl; have HW1 := Lib.hid hW1; have HBW := Lib.hid hbW; have HAS : Hid (Asked W1 S A c A2 c2 args Aa ca) := Lib.hid ⟨hunW.all, HV.out.below hbW, (HA.out.fr (M := fun _ => False) (Fr.of_below hbW) fun _ _ => not_false).mono fun _ _ h => h, HAL.out, z1, z2, z3⟩; have HUW := Lib.hid hunW; clear hW1 hun hb hb1 hbW hunW hbl)))
  rw [← HW1.out]
  have hcp := fun (w' : World) (hf : Fr (fun _ => False) W1 w') => HAS.out.copy hf
  have how := fun (w' : World) (hf : Fr (fun _ => False) W1 w') => HAS.out.own HL1.out HL2.out hf
  have hpg := fun (w' wa wb : World) (A' A2' A3 : Option Addr) (c' c2' c3 : Nat) (hu : UnIn (fun g => g < wa.heap.size) wa S A' c' A2' c2') (hua : Fr (fun _ => False) wa w') (hr : Row (fun g => g < wb.heap.size) wb (.slice A3 l.length c3) l.length 1 (numV l)) (hrb : Fr (fun _ => False) wb w') (hf : Fr (fun _ => False) W1 w') => HAS.out.prof HE.out HL4.out r hr0 hr2 HSF.out HNB.out hu hua hr hrb hf
  unfold unV at hcp how hpg
  have HCP := Lib.hid hcp
  have HOW := Lib.hid how
  have HPG := Lib.hid hpg
  clear hcp how hpg
  go_cut [8, 9] (fun v8 v9 wc => ∃ gK, v8 = .slice (some ⟨gK, 0, none⟩) S.blocks.length S.blocks.length ∧ v9 = .int .i64 0 ∧ Blk wc gK 68 (cntC sF.seen).toArray ∧ Fr (fun _ => False) W1 wc)
  case first => as_aux_lemma =>
    go_region_held3 (fun w' => w'.cell? ⟨w1.heap.size, 0, none⟩ = some (.slice A S.sizes.length c) ∧ w'.cell? ⟨w1.heap.size, 1, none⟩ = some (.int .i64 S.params) ∧ w'.cell? ⟨w1.heap.size, 2, none⟩ = some (.int .i64 S.regs) ∧ w'.cell? ⟨w1.heap.size, 3, none⟩ = some (.int .i64 S.code) ∧ w'.cell? ⟨w1.heap.size, 4, none⟩ = some (.int .i64 S.spill) ∧ w'.cell? ⟨w1.heap.size, 5, none⟩ = some (.slice A2 S.blocks.length c2)) (first | exact ⟨q0, q1, q2, q3, q4, q5⟩ | exact ⟨k0, k1, k2, k3, k4, k5⟩ | (go_keep; done))
          (first
            | (go_at_call 13; go_loud ((with_reducible refine (HCP.out _ ?f).mono ?_); (case f => first | exact HF.out.drewN _ | exact HF.out | exact (Fr.refl _ _).drewN _ | exact Fr.refl _ _); rintro x w2 ⟨A', c', A2', c2', rfl, hu2, hf2, hf3⟩; have k0 : w2.cell? ⟨w1.heap.size, 0, none⟩ = some (.slice A S.sizes.length c) := hf2.cell q0 not_false; have k1 : w2.cell? ⟨w1.heap.size, 1, none⟩ = some (.int .i64 S.params) := hf2.cell q1 not_false; have k2 : w2.cell? ⟨w1.heap.size, 2, none⟩ = some (.int .i64 S.regs) := hf2.cell q2 not_false; have k3 : w2.cell? ⟨w1.heap.size, 3, none⟩ = some (.int .i64 S.code) := hf2.cell q3 not_false; have k4 : w2.cell? ⟨w1.heap.size, 4, none⟩ = some (.int .i64 S.spill) := hf2.cell q4 not_false; have k5 : w2.cell? ⟨w1.heap.size, 5, none⟩ = some (.slice A2 S.blocks.length c2) := hf2.cell q5 not_false; have HF := Lib.hid hf2; have HU := Lib.hid hu2; have HG2 := Lib.hid hf3; clear hu2 hf2 hf3))
            | (go_at_call 20; go_loud ((with_reducible refine (HOW.out _ ?f).mono ?_); (case f => first | exact HF.out.drewN _ | exact HF.out | exact (Fr.refl _ _).drewN _ | exact Fr.refl _ _); rintro x w4 ⟨A3, c3, rfl, hr4, hf2, hf3⟩; have k0 : w4.cell? ⟨w1.heap.size, 0, none⟩ = some (.slice A S.sizes.length c) := hf2.cell q0 not_false; have k1 : w4.cell? ⟨w1.heap.size, 1, none⟩ = some (.int .i64 S.params) := hf2.cell q1 not_false; have k2 : w4.cell? ⟨w1.heap.size, 2, none⟩ = some (.int .i64 S.regs) := hf2.cell q2 not_false; have k3 : w4.cell? ⟨w1.heap.size, 3, none⟩ = some (.int .i64 S.code) := hf2.cell q3 not_false; have k4 : w4.cell? ⟨w1.heap.size, 4, none⟩ = some (.int .i64 S.spill) := hf2.cell q4 not_false; have k5 : w4.cell? ⟨w1.heap.size, 5, none⟩ = some (.slice A2 S.blocks.length c2) := hf2.cell q5 not_false; have HF := Lib.hid hf2; have HR := Lib.hid hr4; have HG4 := Lib.hid hf3; clear hr4 hf2 hf3))
            | (go_at_call 24; go_loud (rw [HWR.out]; (with_reducible refine (HPG.out _ _ _ _ _ _ _ _ _ HU.out ?fu HR.out ?fr ?f).mono ?_); (case fu => first | exact (Fr.refl _ _).drewN _ | exact Fr.refl _ _ | exact Fr.drewN (Fr.then_ ((Fr.refl _ _).drewN _) HG4.out) _ | exact Fr.then_ ((Fr.refl _ _).drewN _) HG4.out | exact Fr.drewN (Fr.then_ (Fr.refl _ _) HG4.out) _ | exact Fr.then_ (Fr.refl _ _) HG4.out); (case fr => first | exact (Fr.refl _ _).drewN _ | exact Fr.refl _ _ | exact Fr.drewN (Fr.then_ ((Fr.refl _ _).drewN _) HG2.out) _ | exact Fr.then_ ((Fr.refl _ _).drewN _) HG2.out | exact Fr.drewN (Fr.then_ (Fr.refl _ _) HG2.out) _ | exact Fr.then_ (Fr.refl _ _) HG2.out); (case f => first | exact HF.out.drewN _ | exact HF.out | exact (Fr.refl _ _).drewN _ | exact Fr.refl _ _); rintro x w5 ⟨g, rfl, hblk, hf5⟩; have HBLK := Lib.hid hblk; clear hblk; have k0 : w5.cell? ⟨w1.heap.size, 0, none⟩ = some (.slice A S.sizes.length c) := hf5.cell q0 not_false; have k1 : w5.cell? ⟨w1.heap.size, 1, none⟩ = some (.int .i64 S.params) := hf5.cell q1 not_false; have k2 : w5.cell? ⟨w1.heap.size, 2, none⟩ = some (.int .i64 S.regs) := hf5.cell q2 not_false; have k3 : w5.cell? ⟨w1.heap.size, 3, none⟩ = some (.int .i64 S.code) := hf5.cell q3 not_false; have k4 : w5.cell? ⟨w1.heap.size, 4, none⟩ = some (.int .i64 S.spill) := hf5.cell q4 not_false; have k5 : w5.cell? ⟨w1.heap.size, 5, none⟩ = some (.slice A2 S.blocks.length c2) := hf5.cell q5 not_false; have HF := Lib.hid hf5; clear hf5)))
    all_goals
      go_wp2
      go_meet
      exact ⟨_, rfl, rfl, HBLK.out, HF.out⟩
  case rest =>
    obtain ⟨gK, rfl, rfl, hblk, hf0⟩ := hcut
    have p0 : wc.cell? ⟨w1.heap.size, 0, none⟩ = some (.slice A S.sizes.length c) := hf0.cell q0 not_false
    have p1 : wc.cell? ⟨w1.heap.size, 1, none⟩ = some (.int .i64 S.params) := hf0.cell q1 not_false
    have p2 : wc.cell? ⟨w1.heap.size, 2, none⟩ = some (.int .i64 S.regs) := hf0.cell q2 not_false
    have p3 : wc.cell? ⟨w1.heap.size, 3, none⟩ = some (.int .i64 S.code) := hf0.cell q3 not_false
    have p4 : wc.cell? ⟨w1.heap.size, 4, none⟩ = some (.int .i64 S.spill) := hf0.cell q4 not_false
    have p5 : wc.cell? ⟨w1.heap.size, 5, none⟩ = some (.slice A2 S.blocks.length c2) := hf0.cell q5 not_false
    have HAS2 := Lib.hid (HAS.out.fr hf0)
    have HBLK := Lib.hid hblk
    have HF0 := Lib.hid hf0
    clear hf0 hblk
    have hcp := fun (w' : World) (hf : Fr (fun _ => False) wc w') => HAS2.out.copy hf
    have how := fun (w' : World) (hf : Fr (fun _ => False) wc w') => HAS2.out.own HL1.out HL2.out hf
    have hwg := fun (w' wa wb : World) (A' A2' A3 : Option Addr) (c' c2' c3 : Nat) (hu : UnIn (fun g => g < wa.heap.size) wa S A' c' A2' c2') (hua : Fr (fun _ => False) wa w') (hr : Row (fun g => g < wb.heap.size) wb (.slice A3 l.length c3) l.length 1 (numV l)) (hrb : Fr (fun _ => False) wb w') (hf : Fr (fun _ => False) wc w') => HAS2.out.way HE.out HL4.out r hr0 hr2 HSF.out HNW.out hu hua hr hrb hf
    unfold unV at hcp how hwg
    have HCP2 := Lib.hid hcp
    have HOW2 := Lib.hid how
    have HWG := Lib.hid hwg
    clear hcp how hwg
    go_upto_region 3 with fail
    go_cut [10, 11] (fun v10 v11 wd => ∃ A5 c5, v10 = .slice A5 nw c5 ∧ v11 = .int .i64 0 ∧ Row (fun g => g < wd.heap.size) wd (.slice A5 nw c5) nw 1 (numV sF.ways) ∧ Fr (fun _ => False) wc wd)
    case first => as_aux_lemma =>
      go_region_held3 (fun w' => w'.cell? ⟨w1.heap.size, 0, none⟩ = some (.slice A S.sizes.length c) ∧ w'.cell? ⟨w1.heap.size, 1, none⟩ = some (.int .i64 S.params) ∧ w'.cell? ⟨w1.heap.size, 2, none⟩ = some (.int .i64 S.regs) ∧ w'.cell? ⟨w1.heap.size, 3, none⟩ = some (.int .i64 S.code) ∧ w'.cell? ⟨w1.heap.size, 4, none⟩ = some (.int .i64 S.spill) ∧ w'.cell? ⟨w1.heap.size, 5, none⟩ = some (.slice A2 S.blocks.length c2)) (first | exact ⟨p0, p1, p2, p3, p4, p5⟩ | exact ⟨k0, k1, k2, k3, k4, k5⟩ | (go_keep; done))
            (first
              | (go_at_call 13; go_loud ((with_reducible refine (HCP2.out _ ?f).mono ?_); (case f => first | exact HF.out.drewN _ | exact HF.out | exact (Fr.refl _ _).drewN _ | exact Fr.refl _ _); rintro x w2 ⟨A', c', A2', c2', rfl, hu2, hf2, hf3⟩; have k0 : w2.cell? ⟨w1.heap.size, 0, none⟩ = some (.slice A S.sizes.length c) := hf2.cell p0 not_false; have k1 : w2.cell? ⟨w1.heap.size, 1, none⟩ = some (.int .i64 S.params) := hf2.cell p1 not_false; have k2 : w2.cell? ⟨w1.heap.size, 2, none⟩ = some (.int .i64 S.regs) := hf2.cell p2 not_false; have k3 : w2.cell? ⟨w1.heap.size, 3, none⟩ = some (.int .i64 S.code) := hf2.cell p3 not_false; have k4 : w2.cell? ⟨w1.heap.size, 4, none⟩ = some (.int .i64 S.spill) := hf2.cell p4 not_false; have k5 : w2.cell? ⟨w1.heap.size, 5, none⟩ = some (.slice A2 S.blocks.length c2) := hf2.cell p5 not_false; have HF := Lib.hid hf2; have HU := Lib.hid hu2; have HG2 := Lib.hid hf3; clear hu2 hf2 hf3))
              | (go_at_call 20; go_loud ((with_reducible refine (HOW2.out _ ?f).mono ?_); (case f => first | exact HF.out.drewN _ | exact HF.out | exact (Fr.refl _ _).drewN _ | exact Fr.refl _ _); rintro x w4 ⟨A3, c3, rfl, hr4, hf2, hf3⟩; have k0 : w4.cell? ⟨w1.heap.size, 0, none⟩ = some (.slice A S.sizes.length c) := hf2.cell p0 not_false; have k1 : w4.cell? ⟨w1.heap.size, 1, none⟩ = some (.int .i64 S.params) := hf2.cell p1 not_false; have k2 : w4.cell? ⟨w1.heap.size, 2, none⟩ = some (.int .i64 S.regs) := hf2.cell p2 not_false; have k3 : w4.cell? ⟨w1.heap.size, 3, none⟩ = some (.int .i64 S.code) := hf2.cell p3 not_false; have k4 : w4.cell? ⟨w1.heap.size, 4, none⟩ = some (.int .i64 S.spill) := hf2.cell p4 not_false; have k5 : w4.cell? ⟨w1.heap.size, 5, none⟩ = some (.slice A2 S.blocks.length c2) := hf2.cell p5 not_false; have HF := Lib.hid hf2; have HR := Lib.hid hr4; have HG4 := Lib.hid hf3; clear hr4 hf2 hf3))
              | (go_at_call 25; go_loud (rw [HWR.out]; (with_reducible refine (HWG.out _ _ _ _ _ _ _ _ _ HU.out ?fu HR.out ?fr ?f).mono ?_); (case fu => first | exact (Fr.refl _ _).drewN _ | exact Fr.refl _ _ | exact Fr.drewN (Fr.then_ ((Fr.refl _ _).drewN _) HG4.out) _ | exact Fr.then_ ((Fr.refl _ _).drewN _) HG4.out | exact Fr.drewN (Fr.then_ (Fr.refl _ _) HG4.out) _ | exact Fr.then_ (Fr.refl _ _) HG4.out); (case fr => first | exact (Fr.refl _ _).drewN _ | exact Fr.refl _ _ | exact Fr.drewN (Fr.then_ ((Fr.refl _ _).drewN _) HG2.out) _ | exact Fr.then_ ((Fr.refl _ _).drewN _) HG2.out | exact Fr.drewN (Fr.then_ (Fr.refl _ _) HG2.out) _ | exact Fr.then_ (Fr.refl _ _) HG2.out); (case f => first | exact HF.out.drewN _ | exact HF.out | exact (Fr.refl _ _).drewN _ | exact Fr.refl _ _); rintro x w5 ⟨A5, c5, rfl, hrow, hf5⟩; have HROW := Lib.hid hrow; clear hrow; have k0 : w5.cell? ⟨w1.heap.size, 0, none⟩ = some (.slice A S.sizes.length c) := hf5.cell p0 not_false; have k1 : w5.cell? ⟨w1.heap.size, 1, none⟩ = some (.int .i64 S.params) := hf5.cell p1 not_false; have k2 : w5.cell? ⟨w1.heap.size, 2, none⟩ = some (.int .i64 S.regs) := hf5.cell p2 not_false; have k3 : w5.cell? ⟨w1.heap.size, 3, none⟩ = some (.int .i64 S.code) := hf5.cell p3 not_false; have k4 : w5.cell? ⟨w1.heap.size, 4, none⟩ = some (.int .i64 S.spill) := hf5.cell p4 not_false; have k5 : w5.cell? ⟨w1.heap.size, 5, none⟩ = some (.slice A2 S.blocks.length c2) := hf5.cell p5 not_false; have HF := Lib.hid hf5; clear hf5)))
      all_goals
        go_wp2
        go_meet
        exact ⟨_, _, rfl, rfl, HROW.out, HF.out⟩
    case rest =>
      obtain ⟨A5, c5, rfl, rfl, hrow, hf1⟩ := hcut
      obtain ⟨g5, o5, rfl, _, hw0⟩ := row_at hrow hnw0
      have hf1b := HF0.out.then_ hf1
      have y5 := hf1b.cell q5 not_false
      have x0 : wc.cell? ⟨g5, o5, none⟩ = some (.int .i64 0) := hw0 _ HWAY.out
      have hun : UnIn (fun g => g < w1.heap.size) wc S A c A2 c2 := HUW.out.fr hf1b fun _ _ => not_false
      have hblk := HBLK.out.fr hf1 not_false
      have hbw : Below w.heap.size w wc := HBW.out.trans (hf1b.below (fun _ h => h.elim) HBW.out.size)
      have hlt1 : w1.heap.size < wc.heap.size := World.block_lt_of_cell? wc ⟨w1.heap.size, 5, none⟩ y5
      have hltK := hblk.lt
      have hVc := HAS.out.env.fr0 hf1b
      have hnw1 : (0 : Int) < nw := by omega
      have hnwe : ((nw : Int) == 0) = false := by simp; omega
      have hnb1 : (0 : Int) < S.blocks.length := by omega
      have HUN := Lib.hid hun
      have HBK := Lib.hid hblk
      have HBWC := Lib.hid hbw
      have HV2 := Lib.hid hVc
      have mk := fun W => make_int S.blocks.length (by omega) W
      clear hrow hw0 hf1 hf1b hun hblk hbw hVc p0 p1 p2 p3 p4 p5
      go_upto_region 11 with fail
      obtain ⟨We, hWe⟩ : ∃ We, We = wc.alloc (.cells (numV (List.replicate S.blocks.length 0)).toArray 3) := ⟨_, rfl⟩
      rw [← hWe]
      have hB0 : Blk We wc.heap.size 3 (numV (List.replicate S.blocks.length 0)).toArray := by rw [hWe]; exact blk_new _ rfl _ _
      have cw0 : We.cell? ⟨wc.heap.size, 0, none⟩ = some (.int .i64 ((List.replicate S.blocks.length (0 : Int)).getD 0 0)) := (hB0.cell 0).trans (numV_cell _ 0 (by simpa using hnb0))
      have fw0 := hB0.frozen 0
      have hbe : Below wc.heap.size wc We := by rw [hWe]; exact (Below.refl _ _).alloc (Nat.le_refl _) _
      have y5e := hbe.cell (p := ⟨w1.heap.size, 5, none⟩) hlt1 |>.trans y5
      have HB0 := Lib.hid hB0
      have HBE := Lib.hid hbe
      obtain ⟨gw, hgw⟩ : ∃ gw, gw = wc.heap.size := ⟨_, rfl⟩
      have hg1 : w1.heap.size ≠ gw := by omega
      have hgK : gK ≠ gw := by omega
      rw [← hgw] at HB0 cw0 fw0 HBE ⊢
      have HGW := Lib.hid hgw
      clear hB0 hbe hWe hgw y5
      go_wp2
      go_loopw [12, 13, 15] (fun v12 v13 v15 wr => ∃ (k : Nat) (W : List Int) (all : Int), k ≤ S.blocks.length ∧ v12 = .bool (plainK S.blocks k) ∧ v13 = .int .i64 all ∧ v15 = .int .i64 k ∧ Sums S sF.seen k W all ∧ Blk wr gw 3 (numV W).toArray ∧ Fr (fun b => b = gw) We wr) (fun _ _ v15 _ => S.blocks.length - (intOf v15).toNat)
      case atStart =>
        refine ⟨0, (List.replicate S.blocks.length 0).set 0 1, 0, Nat.zero_le _, rfl, rfl, rfl, Sums.zero HG.out _, ?_, Fr.setCell (M := fun b => b = gw) (p := ⟨gw, 0, none⟩) (Fr.refl _ _) (.inl rfl) _⟩
        have h := HB0.out.set_ 0 (.int .i64 1)
        rw [List.setIfInBounds_toArray, numV_set] at h
        exact h
      case round =>
        obtain ⟨k, W, all, hk, rfl, rfl, rfl, hsum, hbw, hfr⟩ := hrel
        have hbd := hsum.bd HP.out
        obtain ⟨⟨ha0, ha1⟩, hWb⟩ := hbd
        have yr5 := hfr.cell y5e hg1
        have hfc : Fr (fun b => b = gw) wc wr := (Fr.of_below (HGW.out ▸ HBE.out)).then_ hfr
        have hgws := hbw.lt
        have HSUM := Lib.hid hsum
        have HBW2 := Lib.hid hbw
        have HFR := Lib.hid hfr
        have HFC := Lib.hid hfc
        have HWL := Lib.hid hsum.wl
        have ha2 : all ≤ 20000 := by omega
        by_cases hlt : k < S.blocks.length
        · have hkI : (k : Int) < S.blocks.length := by omega
          obtain ⟨hs, ⟨vs, hl, hR, hO⟩, hF⟩ := HUN.out
          have hR' := hR.fr hfc fun g hg e => by have e' : g = gw := e; have := HGW.out; omega
          obtain ⟨g2, o2, rfl, hFg, d0, d1, d2, d3, d4, d5⟩ := blk_at hl hR' hlt
          have hOr := (hO k hlt).fr hfc fun g hg e => by have e' : g = gw := e; have := HGW.out; omega
          have hbe : S.blocks[k] = S.blocks.getD k dBl := by rw [List.getD_eq_getElem?_getD, List.getElem?_eq_getElem hlt]; rfl
          rw [hbe] at hOr
          have hbg := HG.out.bls _ (blk_mem hlt)
          have hstep := hsum.step HG.out HP.out hlt
          have htri := HP.out.tri k
          have ht0 := HP.out.to0 k
          have he0 := HP.out.el0 k
          have hkl : k < sF.seen.length := by rw [HNB.out]; exact hlt
          have q0' : wr.cell? ⟨gK, k * 3, none⟩ = _ := ((HBK.out.fr hfc hgK).cell (k * 3)).trans ((List.getElem?_toArray ..).trans (cntC_0 _ k hkl))
          have q1' : wr.cell? ⟨gK, k * 3 + 1, none⟩ = _ := ((HBK.out.fr hfc hgK).cell (k * 3 + 1)).trans ((List.getElem?_toArray ..).trans (cntC_1 _ k hkl))
          have q2' : wr.cell? ⟨gK, k * 3 + 2, none⟩ = _ := ((HBK.out.fr hfc hgK).cell (k * 3 + 2)).trans ((List.getElem?_toArray ..).trans (cntC_2 _ k hkl))
          have hce : sF.seen[k] = sF.seen.getD k c0 := by rw [List.getD_eq_getElem?_getD, List.getElem?_eq_getElem hkl]; rfl
          rw [hce] at q0' q1' q2'
          have hpl := plainK_succ S.blocks k hlt
          obtain ⟨b, hbb⟩ : ∃ b, b = S.blocks.getD k dBl := ⟨_, rfl⟩
          obtain ⟨cc, hcc⟩ : ∃ cc, cc = sF.seen.getD k c0 := ⟨_, rfl⟩
          rw [← hbb] at d1 d2 d3 d4 d5 hOr hbg hstep ht0 he0 hpl
          rw [← hcc] at q0' q1' q2' hstep htri ht0 he0
          clear hbb hcc hbe hce hs hl hR hO hF hR' hFg
          obtain ⟨bops, ⟨ek, ea, et, el⟩, bct⟩ := b
          obtain ⟨ce, cT, cE⟩ := cc
          simp only at d1 d2 d3 d4 d5 hOr hbg hstep ht0 he0 htri q0' q1' q2'
          obtain ⟨t1, t2, t3, t4⟩ := htri
          have hsh : ∃ A cc, vs.getD k .nilFunc = .slice A bops.length cc := by obtain ⟨_, A, cc, e, h, _⟩ := hOr; exact ⟨A, cc, e⟩
          obtain ⟨Ao, co, eO⟩ := hsh
          rw [eO] at d0 hOr
          obtain ⟨no, hno⟩ : ∃ no, no = bops.length := ⟨_, rfl⟩
          rw [← hno] at d0 hOr
          have hn400 : no ≤ 400 := by rw [hno]; exact hbg.len
          obtain ⟨WT, hWT⟩ : ∃ WT, WT = if ek = 1 ∨ ek = 2 then W.set et.toNat (W.getD et.toNat 0 + cT) else W := ⟨_, rfl⟩
          have hWE : want1 ⟨bops, ⟨ek, ea, et, el⟩, bct⟩ (ce, cT, cE) W = if ek = 2 then WT.set el.toNat (WT.getD el.toNat 0 + cE) else WT := by rw [hWT]; rfl
          have hET := hbg.ed.t
          have hEL := hbg.ed.l
          have hWTl : WT.length = S.blocks.length := by rw [hWT]; split <;> simp [HWL.out]
          have hWTb : ∀ j : Nat, 0 ≤ WT.getD j 0 ∧ WT.getD j 0 ≤ 50000 := fun j => by
            have h1 := hWb j
            rw [hWT]
            split
            · rename_i h
              obtain ⟨r1, r2⟩ := hET h
              have r2' : et < S.blocks.length := r2
              have h2 := hWb et.toNat
              rw [getD_setI _ _ _ _ (by rw [HWL.out]; have r1' : 0 ≤ et := r1; omega)]
              split <;> omega
            · omega
          have HSTEP := Lib.hid hstep
          have HWE := Lib.hid hWE
          have HWT := Lib.hid hWT
          have HWTL := Lib.hid hWTl
          have HWTB := Lib.hid hWTb
          have HWB := Lib.hid hWb
          have HET := Lib.hid hET
          have HEL := Lib.hid hEL
          have HT0 := Lib.hid ht0
          have HE0 := Lib.hid he0
          have HOR := Lib.hid hOr
          have HPL := Lib.hid hpl
          have HNO := Lib.hid hno
          have lg2 : g2 < wr.heap.size := lt_cell d0
          have lgw : gw < wr.heap.size := hgws
          have lgK : gK < wr.heap.size := lt_cell q0'
          have l16 : w1.heap.size < wr.heap.size := lt_cell yr5
          have n1 : g2 ≠ wr.heap.size := by omega
          have n1' := n1.symm
          have n2 : gK ≠ wr.heap.size := by omega
          have n2' := n2.symm
          have n3 : w1.heap.size ≠ wr.heap.size := by omega
          have n3' := n3.symm
          have c1 : decide (cT < 0) = false := decide_eq_false (by omega)
          have c2 : decide (cE < 0) = false := decide_eq_false (by omega)
          have c3 : decide (ce < cT + cE) = false := decide_eq_false (by omega)
          have t5 : ce ≤ 20000 := by omega
          clear hstep hWE hWT hWTl hWTb hWb hET hEL ht0 he0 hOr hpl hno hbg eO hsum hbw hfr hfc hkl
          go_upto_region 17 with fail
          obtain ⟨Wb, hWb⟩ : ∃ Wb, Wb = wr.alloc (.cells #[.slice Ao no co, .int .i64 ek, .int .i64 ea, .int .i64 et, .int .i64 el, .int .i64 bct] 73) := ⟨_, rfl⟩
          rw [← hWb]
          have hbb : Below wr.heap.size wr Wb := by rw [hWb]; exact (Below.refl _ _).alloc (Nat.le_refl _) _
          have hB16 : Blk Wb wr.heap.size 73 #[.slice Ao no co, .int .i64 ek, .int .i64 ea, .int .i64 et, .int .i64 el, .int .i64 bct] := by rw [hWb]; exact blk_new _ rfl _ _
          have s0 := (hbb.cell (p := ⟨gK, k * 3, none⟩) lgK).trans q0'
          have s1 := (hbb.cell (p := ⟨gK, k * 3 + 1, none⟩) lgK).trans q1'
          have s2 := (hbb.cell (p := ⟨gK, k * 3 + 2, none⟩) lgK).trans q2'
          have hBW := HBW2.out.below hbb
          have hOR := HOR.out.fr (M := fun _ => False) (Fr.of_below hbb) fun _ _ => not_false
          have hFRb := HFR.out.then_ (Fr.of_below hbb)
          obtain ⟨p16, hp16⟩ : ∃ p16, p16 = wr.heap.size := ⟨_, rfl⟩
          rw [← hp16] at hB16 ⊢
          have np16 : p16 ≠ gw := by omega
          have HB16 := Lib.hid hB16
          have HBW3 := Lib.hid hBW
          have HOR2 := Lib.hid hOR
          have HFRB := Lib.hid hFRb
          clear hWb hbb hB16 hBW hOR hFRb d0 d1 d2 d3 d4 d5 q0' q1' q2' n1 n1' n2 n2' n3 n3' lg2 lgw lgK l16 hp16 yr5 hgws
          go_cut [136] from 85 to 205 (fun v136 wx => v136 = .bool false ∧ Fr (fun _ => False) Wb wx)
          case first => as_aux_lemma =>
            go_quiet (fail)
            go_wp2
            go_meet
            exact ⟨rfl, (Fr.refl _ _).drewN _⟩
          case rest =>
            obtain ⟨rfl, hf17⟩ := hcut
            have hb := HB16.out.fr hf17 not_false
            have b1 : wc.cell? ⟨p16, 1, none⟩ = some (.int .i64 ek) := (hb.cell 1).trans rfl
            have b3 : wc.cell? ⟨p16, 3, none⟩ = some (.int .i64 et) := (hb.cell 3).trans rfl
            have s1' := hf17.cell s1 not_false
            have s2' := hf17.cell s2 not_false
            have hBW := HBW3.out.fr hf17 not_false
            have HBW4 := Lib.hid hBW
            have HF17 := Lib.hid hf17
            clear hb hBW hf17 s1 c1 c2 c3
            obtain ⟨tb, htb⟩ : ∃ tb, tb = decide (ek = 1 ∨ ek = 2) := ⟨_, rfl⟩
            have HTT : Hid (∀ W, Calls Tryd.prog 28 #[.int .i64 ek] W fun x w' => x = .returned (.bool tb) ∧ W = w') := Lib.hid (fun W => by
              rw [htb]
              by_cases hT : ek = 1 ∨ ek = 2
              · rw [decide_eq_true hT]; exact endTo_yes ek hT W
              · rw [decide_eq_false hT]; exact endTo_no ek hT W)
            have HTB := Lib.hid htb
            clear htb
            go_upto_if 140 with (go_at_call 28; (with_reducible refine (HTT.out _).mono ?_); rintro x w3 ⟨rfl, rfl⟩)
            go_cut [13] from 85 to 205 (fun v13 wx => v13 = .int .i64 (all + ce) ∧ Blk wx gw 3 (numV WT).toArray ∧ Fr (fun b => b = gw) Wb wx)
            case first => as_aux_lemma =>
              by_cases hT : ek = 1 ∨ ek = 2
              · obtain rfl : tb = true := by rw [HTB.out]; exact decide_eq_true hT
                obtain ⟨r1, r2⟩ := HET.out hT
                obtain ⟨tn, rfl⟩ : ∃ tn : Nat, et = tn := ⟨et.toNat, by have r1' : 0 ≤ et := r1; omega⟩
                have r2' : (tn : Int) < S.blocks.length := r2
                have htn : tn < W.length := by rw [HWL.out]; omega
                have cw : wc.cell? ⟨gw, tn, none⟩ = some (.int .i64 (W.getD tn 0)) := (HBW4.out.cell tn).trans (numV_cell W tn htn)
                have fw := HBW4.out.frozen tn
                have hx := HWB.out tn
                obtain ⟨x, hxe⟩ : ∃ x, x = W.getD tn 0 := ⟨_, rfl⟩
                rw [← hxe] at cw hx
                obtain ⟨hx0, hx1⟩ := hx
                have hx2 : x ≤ 30000 := by omega
                have e := HWT.out
                rw [if_pos hT, Int.toNat_natCast, ← hxe] at e
                have HEW := Lib.hid e
                clear hT r1 r2 htn hxe e
                go_wp2
                go_region
                go_wp2
                go_meet
                refine ⟨rfl, ?_, ?_⟩
                · have h := HBW4.out.set_ tn (.int .i64 (x + cT))
                  rw [List.setIfInBounds_toArray, numV_set, ← HEW.out] at h
                  exact h
                · exact (((HF17.out.mono (M' := fun b => b = gw) fun _ h => h.elim).setCell (M := fun b => b = gw) (p := ⟨gw, tn, none⟩) (.inl rfl) (.int .i64 (x + cT))).drewN 1)
              · obtain rfl : tb = false := by rw [HTB.out]; exact decide_eq_false hT
                obtain rfl := HT0.out hT
                have e := HWT.out
                rw [if_neg hT] at e
                have HEW := Lib.hid e
                clear hT e
                go_wp2
                go_meet
                exact ⟨rfl, by rw [HEW.out]; exact HBW4.out, HF17.out.mono fun _ h => h.elim⟩
            case rest =>
              obtain ⟨rfl, hBT, hf19⟩ := hcut
              have hb := HB16.out.fr hf19 np16
              have b1 : wc.cell? ⟨p16, 1, none⟩ = some (.int .i64 ek) := (hb.cell 1).trans rfl
              have b4 : wc.cell? ⟨p16, 4, none⟩ = some (.int .i64 el) := (hb.cell 4).trans rfl
              have s2'' := hf19.cell s2 hgK
              have HBT := Lib.hid hBT
              have HF19 := Lib.hid hf19
              clear hb hBT hf19 b3 s1' s2'
              obtain ⟨eb, heb⟩ : ∃ eb, eb = decide (ek = 2) := ⟨_, rfl⟩
              have HEE : Hid (∀ W, Calls Tryd.prog 29 #[.int .i64 ek] W fun x w' => x = .returned (.bool eb) ∧ W = w') := Lib.hid (fun W => by
                rw [heb]
                by_cases hT : ek = 2
                · rw [decide_eq_true hT]; exact endElse_yes ek hT W
                · rw [decide_eq_false hT]; exact endElse_no ek hT W)
              have HEB := Lib.hid heb
              clear heb
              go_upto_if 163 with (go_at_call 29; (with_reducible refine (HEE.out _).mono ?_); rintro x w3 ⟨rfl, rfl⟩)
              go_cut [13] from 85 to 205 (fun v13 wx => v13 = .int .i64 (all + ce) ∧ Blk wx gw 3 (numV (want1 ⟨bops, ⟨ek, ea, et, el⟩, bct⟩ (ce, cT, cE) W)).toArray ∧ Fr (fun b => b = gw) Wb wx)
              case first => as_aux_lemma =>
                by_cases hT : ek = 2
                · obtain rfl : eb = true := by rw [HEB.out]; exact decide_eq_true hT
                  obtain ⟨r1, r2⟩ := HEL.out hT
                  obtain ⟨tn, rfl⟩ : ∃ tn : Nat, el = tn := ⟨el.toNat, by have r1' : 0 ≤ el := r1; omega⟩
                  have r2' : (tn : Int) < S.blocks.length := r2
                  have htn : tn < WT.length := by rw [HWTL.out]; omega
                  have cw : wc.cell? ⟨gw, tn, none⟩ = some (.int .i64 (WT.getD tn 0)) := (HBT.out.cell tn).trans (numV_cell WT tn htn)
                  have fw := HBT.out.frozen tn
                  have hx := HWTB.out tn
                  obtain ⟨x, hxe⟩ : ∃ x, x = WT.getD tn 0 := ⟨_, rfl⟩
                  rw [← hxe] at cw hx
                  obtain ⟨hx0, hx1⟩ := hx
                  have e := HWE.out
                  rw [if_pos hT, Int.toNat_natCast, ← hxe] at e
                  have HEW := Lib.hid e
                  clear hT r1 r2 htn hxe e
                  go_wp2
                  go_region
                  go_wp2
                  go_meet
                  refine ⟨rfl, ?_, ?_⟩
                  · have h := HBT.out.set_ tn (.int .i64 (x + cE))
                    rw [List.setIfInBounds_toArray, numV_set, ← HEW.out] at h
                    exact h
                  · exact ((HF19.out.setCell (M := fun b => b = gw) (p := ⟨gw, tn, none⟩) (.inl rfl) (.int .i64 (x + cE))).drewN 1)
                · obtain rfl : eb = false := by rw [HEB.out]; exact decide_eq_false hT
                  obtain rfl := HE0.out hT
                  have e := HWE.out
                  rw [if_neg hT] at e
                  have HEW := Lib.hid e
                  clear hT e
                  go_wp2
                  go_meet
                  exact ⟨rfl, by rw [HEW.out]; exact HBT.out, HF19.out⟩
              case rest =>
                obtain ⟨rfl, hBE, hf23⟩ := hcut
                have hb := HB16.out.fr hf23 np16
                have b0 : wc.cell? ⟨p16, 0, none⟩ = some (.slice Ao no co) := (hb.cell 0).trans rfl
                have b5 : wc.cell? ⟨p16, 5, none⟩ = some (.int .i64 bct) := (hb.cell 5).trans rfl
                have HBE2 := Lib.hid hBE
                have HF23 := Lib.hid hf23
                clear hb hBE hf23 s2''
                obtain ⟨pk, hpk⟩ : ∃ pk, pk = plainK S.blocks k := ⟨_, rfl⟩
                rw [← hpk]
                obtain ⟨p2, hp2⟩ : ∃ p2, p2 = (pk && decide (bct < 0)) := ⟨_, rfl⟩
                have HP2 := Lib.hid hp2
                have HPK := Lib.hid hpk
                clear hpk hp2
                go_upto_region 27 with fail
                go_cut [12] from 85 to 205 (fun v12 wx => v12 = .bool p2 ∧ wx = wc)
                case first => as_aux_lemma =>
                  cases pk
                  · go_wp2
                    go_meet
                    exact ⟨by rw [HP2.out]; rfl, rfl⟩
                  · by_cases hct : bct < 0
                    · go_wp2
                      go_meet
                      exact ⟨by rw [HP2.out]; simp [hct], rfl⟩
                    · go_wp2
                      go_meet
                      exact ⟨by rw [HP2.out]; simp [hct], rfl⟩
                case rest =>
                  obtain ⟨rfl, rfl⟩ := hcut
                  go_wp2
                  go_loopw [12, 17] (fun v12 v17 wz => ∃ m : Nat, m ≤ no ∧ v17 = .int .i64 m ∧ v12 = .bool (p2 && plainO ⟨bops, ⟨ek, ea, et, el⟩, bct⟩ m) ∧ wz = wc) (fun _ v17 _ => no - (intOf v17).toNat)
                  case atStart => exact ⟨0, Nat.zero_le _, rfl, by rw [plainO_zero, Bool.and_true], rfl⟩
                  case round =>
                    obtain ⟨m, hm, rfl, rfl, hw⟩ := hrel
                    subst hw
                    by_cases hmt : m < no
                    · have hmI : (m : Int) < no := by omega
                      have hO := HOR2.out.fr HF23.out fun g hg e => by have e' : g = gw := e; have := HGW.out; omega
                      obtain ⟨go_, oo, rfl, _, hck⟩ := op_kind_at hO HNO.out hmt
                      have hps := plainO_succ ⟨bops, ⟨ek, ea, et, el⟩, bct⟩ m (by rw [← HNO.out]; exact hmt)
                      obtain ⟨q, hq⟩ : ∃ q, q = (p2 && plainO ⟨bops, ⟨ek, ea, et, el⟩, bct⟩ m) := ⟨_, rfl⟩
                      obtain ⟨kk, hkk⟩ : ∃ kk, kk = (bops.getD m dOp).k := ⟨_, rfl⟩
                      rw [← hkk] at hck
                      have HQ : Hid ((p2 && plainO ⟨bops, ⟨ek, ea, et, el⟩, bct⟩ (m + 1)) = (q && decide (kk ≠ 21))) := Lib.hid (by rw [hps, ← Bool.and_assoc, ← hq, hkk])
                      rw [← hq]
                      clear hO hps hq hkk
                      cases q
                      · go_wp2
                        go_roundw
                        case rel => exact ⟨m + 1, by omega, by go_num, by rw [HQ.out]; rfl, by first | rfl | trivial⟩
                        case measure => simp [intOf]; omega
                      · by_cases h21 : kk = 21
                        · subst h21
                          go_wp2
                          go_roundw
                          case rel => exact ⟨m + 1, by omega, by go_num, by rw [HQ.out]; rfl, by first | rfl | trivial⟩
                          case measure => simp [intOf]; omega
                        · have hne : (kk != 21) = true := by simpa using h21
                          have HNE := Lib.hid (decide_eq_true h21)
                          clear h21
                          go_wp2
                          go_roundw
                          case rel => exact ⟨m + 1, by omega, by go_num, by rw [HQ.out, HNE.out]; rfl, by first | rfl | trivial⟩
                          case measure => simp [intOf]; omega
                    · obtain rfl : m = no := by omega
                      go_wp2
                      go_roundw
                      case rel =>
                        refine ⟨k + 1, _, _, by omega, ?_, rfl, by go_num, HSTEP.out, HBE2.out, HFRB.out.then_ HF23.out⟩
                        rw [HPL.out, ← plainO_all, HP2.out, HPK.out, Bool.and_assoc, HNO.out]
                      case measure => simp [intOf]; omega
        · obtain rfl : k = S.blocks.length := by omega
          have hdone := hsum.done HP.out
          have hall : all = (nw : Int) := by have h := hdone.1; rw [HNW.out] at h; omega
          have hfl := hdone.2
          obtain ⟨pl, hpl⟩ : ∃ pl, pl = plainK S.blocks S.blocks.length := ⟨_, rfl⟩
          rw [← hpl]
          have HPLN : Hid (pl = true → ∀ j, j < S.blocks.length → (sF.seen.getD j c0).1 = W.getD j 0) := Lib.hid (fun h => hfl (plainK_all (hpl.symm.trans h)))
          have hws : Below w.heap.size w wr := (HBWC.out.trans (HBE.out.mono (by rw [HGW.out]; exact HBWC.out.size))).trans (hfr.below (B := w.heap.size) (fun b hb => by have e : b = gw := hb; rw [e, HGW.out]; exact HBWC.out.size) (Nat.le_trans HBWC.out.size (HGW.out ▸ HBE.out.size)))
          have HWS := Lib.hid hws
          have HVS := Lib.hid (HAS.out.env.fr0 (Fr.refl _ _))
          clear hsum hdone hfl hpl hws hbw hfr hfc
          subst hall
          obtain ⟨wo, rfl⟩ : ∃ wo : World, wo = wr := ⟨_, rfl⟩
          go_wp2
          go_loopw [18] (fun v18 wz => ∃ j : Nat, j ≤ S.blocks.length ∧ v18 = .int .i64 j ∧ Fr (fun _ => False) wo wz) (fun v18 _ => S.blocks.length - (intOf v18).toNat)
          case atStart => exact ⟨0, Nat.zero_le _, rfl, Fr.refl _ _⟩
          case round =>
            obtain ⟨j, hj, rfl, hf⟩ := hrel
            have z5 := hf.cell yr5 not_false
            have HFZ := Lib.hid hf
            have HVZ := Lib.hid (HV.out.below (HWS.out.trans (hf.below (fun _ h => h.elim) HWS.out.size)))
            clear hf yr5
            by_cases hjt : j < S.blocks.length
            · have hjI : (j : Int) < S.blocks.length := by omega
              cases pl
              · go_wp2_with (go_at_call 16; refine (alive_true HVZ.out).mono ?_; rintro x w6 ⟨rfl, hb⟩; have HB6 := Lib.hid hb; clear hb)
                go_ret
                exact ⟨rfl, (HWS.out.trans (HFZ.out.below (fun _ h => h.elim) HWS.out.size)).trans (HB6.out.mono (HWS.out.trans (HFZ.out.below (fun _ h => h.elim) HWS.out.size)).size)⟩
              · have hx := HPLN.out rfl j hjt
                have hjl : j < sF.seen.length := by rw [HNB.out]; exact hjt
                have hce : sF.seen[j] = sF.seen.getD j c0 := by rw [List.getD_eq_getElem?_getD, List.getElem?_eq_getElem hjl]; rfl
                have q0' : wr.cell? ⟨gK, j * 3, none⟩ = _ := (((HBK.out.fr HFC.out hgK).fr HFZ.out not_false).cell (j * 3)).trans ((List.getElem?_toArray ..).trans (cntC_0 _ j hjl))
                have cw : wr.cell? ⟨gw, j, none⟩ = some (.int .i64 (W.getD j 0)) := ((HBW2.out.fr HFZ.out not_false).cell j).trans (numV_cell W j (by rw [HWL.out]; exact hjt))
                rw [hce, hx] at q0'
                obtain ⟨x, hxe⟩ : ∃ x, x = W.getD j 0 := ⟨_, rfl⟩
                rw [← hxe] at q0' cw
                clear hx hjl hce hxe
                go_upto_region 35 with fail
                go_quiet (fail)
                go_wp2
                go_roundw
                case rel => exact ⟨j + 1, by omega, by go_num, HFZ.out.drewN _⟩
                case measure => simp [intOf]; omega
            · obtain rfl : j = S.blocks.length := by omega
              go_wp2_with (go_at_call 16; refine (alive_true HVZ.out).mono ?_; rintro x w6 ⟨rfl, hb⟩; have HB6 := Lib.hid hb; clear hb)
              go_ret
              exact ⟨rfl, (HWS.out.trans (HFZ.out.below (fun _ h => h.elim) HWS.out.size)).trans (HB6.out.mono (HWS.out.trans (HFZ.out.below (fun _ h => h.elim) HWS.out.size)).size)⟩
end Go.Proofs.YtfkjkdoloamakaaDoor
