/- RunProfile, walked, where Check refuses the unit. -/
import Derived.Test.YtfkjkdoloamakaaDoorKd
namespace Go.Proofs.YtfkjkdoloamakaaDoor
open Go.RowKit
set_option linter.unusedVariables false
set_option linter.unusedSimpArgs false
variable {w : World} {F F2 F3 : Nat → Prop} {U : UnS} {Av Ab : Option Addr} {cv cb : Nat}

set_option maxRecDepth 100000 in
set_option maxHeartbeats 4000000 in
theorem profile_no (hu : UnIn F w U Av cv Ab cb) (V : Env w) (hz1 : U.sizes.length ≤ 17592186044416) (hz2 : U.blocks.length * 64 ≤ 140737488355328) (hz3 : ∀ b ∈ U.blocks, b.ops.length * 56 ≤ 140737488355328)
    (args : List Int) (Aa : Option Addr) (ca : Nat) (hA : Row F2 w (.slice Aa args.length ca) args.length 1 (numV args)) (hal : args.length ≤ maxLen) (y : Int) (hy0 : 0 ≤ y) (hy1 : y ≤ 65535) (hE : unErr (smallU U) ≠ 0) :
    Calls Tryd.prog 7 #[unV U Av cv Ab cb, .slice Aa args.length ca, .int .u16 y] w fun x w' => x = .returned (.bool true) ∧ Below w.heap.size w w' := by
  obtain ⟨W0, hW0⟩ : ∃ W0, W0 = w.alloc (.cells (unC U Av cv Ab cb) 25) := ⟨_, rfl⟩
  have hb0 : Below w.heap.size w W0 := by rw [hW0]; exact (Below.refl _ _).alloc (Nat.le_refl _) _
  have hsm := small_any (hu.below hb0) hz1 hz2 hz3
  obtain ⟨S, hS⟩ : ∃ S, S = smallU U := ⟨_, rfl⟩
  have z1 := small_sizes U
  have z2 := small_blocks U
  have z3 := small_ops U
  rw [← hS] at hsm z1 z2 z3 hE
  obtain ⟨l, hl0⟩ : ∃ l, l = ownL args (ownN S) := ⟨_, rfl⟩
  have hl1 : ownN S = l.length := by rw [hl0, ownL_length]
  have hl3 : l.length ≤ 4294967296 := by rw [← hl1]; unfold ownN; omega
  obtain ⟨r, hr⟩ : ∃ r, r = y.tmod 20000 := ⟨_, rfl⟩
  have hr0 : 0 ≤ r := by rw [hr]; exact Int.tmod_nonneg _ hy0
  have hr1 : r ≤ 19999 := by have := Int.tmod_lt_of_pos y (show (0 : Int) < 20000 by decide); omega
  have hr2 : r ≤ 4194304 := by omega
  have hrs := hr.symm
  have HWR : Hid ((IntKind.i64.wrap y).tmod 20000 = r) := Lib.hid (by rw [hr, show IntKind.i64.wrap y = y by simp [IntKind.wrap, IntKind.bits, IntKind.signed]; omega])
  have HW0 := Lib.hid hW0
  have H0 := Lib.hid hb0
  have HSM := Lib.hid hsm
  have HV := Lib.hid V
  have HA := Lib.hid (show Row (fun g => g < w.heap.size) w (.slice Aa args.length ca) args.length 1 (numV args) from hA.mono fun _ _ h => h)
  have HAL := Lib.hid hal
  have HL1 := Lib.hid hl0.symm
  have HL2 := Lib.hid hl1
  have HL3 := Lib.hid hl3
  obtain ⟨e, he⟩ : ∃ e, e = unErr S := ⟨_, rfl⟩
  have hn : (e != 0) = true := by rw [he]; simpa using hE
  have HEV := Lib.hid he.symm
  have HE := Lib.hid hE
  clear hu V hS hsm hb0 hW0 hA hal hl0 hl1 hl3 hr he hE
  unfold unV unC at *
  go_enter Tryd.func7, Tryd.ntmps7
  go_upto_region 2 with ((go_at_call 10; go_loud (rw [← HW0.out]; refine HSM.out.mono ?_; rintro x w1 ⟨A, c, A2, c2, rfl, hun, hb⟩; obtain ⟨W1, hW1⟩ : ∃ W1, W1 = w1.alloc (.cells #[.slice A S.sizes.length c, .int .i64 S.params, .int .i64 S.regs, .int .i64 S.code, .int .i64 S.spill, .slice A2 S.blocks.length c2] 25) := ⟨_, rfl⟩; have hb1 : Below w.heap.size w w1 := H0.out.trans (hb.mono H0.out.size); have hbW : Below w.heap.size w W1 := hW1 ▸ hb1.alloc hb1.size _; have hunW : UnIn (fun g => g < w1.heap.size) W1 S A c A2 c2 := hW1 ▸ (hun.mono (fun g hg hlt => hlt) (fun g hg => hg)).below ((Below.refl _ _).alloc (Nat.le_refl _) _); have hbl : Blk W1 w1.heap.size 25 #[.slice A S.sizes.length c, .int .i64 S.params, .int .i64 S.regs, .int .i64 S.code, .int .i64 S.spill, .slice A2 S.blocks.length c2] := hW1 ▸ blk_new _ rfl _ _; have q0 : W1.cell? ⟨w1.heap.size, 0, none⟩ = some (.slice A S.sizes.length c) := (hbl.cell 0).trans rfl; have q1 : W1.cell? ⟨w1.heap.size, 1, none⟩ = some (.int .i64 S.params) := (hbl.cell 1).trans rfl; have q2 : W1.cell? ⟨w1.heap.size, 2, none⟩ = some (.int .i64 S.regs) := (hbl.cell 2).trans rfl; have q3 : W1.cell? ⟨w1.heap.size, 3, none⟩ = some (.int .i64 S.code) := (hbl.cell 3).trans rfl; have q4 : W1.cell? ⟨w1.heap.size, 4, none⟩ = some (.int .i64 S.spill) := (hbl.cell 4).trans rfl; have q5 : W1.cell? ⟨w1.heap.size, 5, none⟩ = some (.slice A2 S.blocks.length c2) := (hbl.cell 5).trans rfl; have HW1 := Lib.hid hW1; have HBW := Lib.hid hbW; have HAS : Hid (Asked W1 S A c A2 c2 args Aa ca) := Lib.hid ⟨hunW.all, HV.out.below hbW, (HA.out.fr (M := fun _ => False) (Fr.of_below hbW) fun _ _ => not_false).mono fun _ _ h => h, HAL.out, z1, z2, z3⟩; have HUW := Lib.hid hunW; clear hW1 hun hb hb1 hbW hunW hbl)))
  rw [← HW1.out]
  have hcp := fun (w' : World) (hf : Fr (fun _ => False) W1 w') => HAS.out.copy hf
  have how := fun (w' : World) (hf : Fr (fun _ => False) W1 w') => HAS.out.own HL1.out HL2.out hf
  have hpb := fun (w' wa : World) (A' A2' A3 : Option Addr) (c' c2' c3 : Nat) (hu : UnIn (fun g => g < wa.heap.size) wa S A' c' A2' c2') (hua : Fr (fun _ => False) wa w') (hf : Fr (fun _ => False) W1 w') => HAS.out.profBad (A3 := A3) (c3 := c3) HE.out HL3.out r hu hua hf
  have hwb := fun (w' wa : World) (A' A2' A3 : Option Addr) (c' c2' c3 : Nat) (hu : UnIn (fun g => g < wa.heap.size) wa S A' c' A2' c2') (hua : Fr (fun _ => False) wa w') (hf : Fr (fun _ => False) W1 w') => HAS.out.wayBad (A3 := A3) (c3 := c3) HE.out HL3.out r hu hua hf
  rw [HEV.out] at hpb hwb
  unfold unV at hcp how hpb hwb
  have HCP := Lib.hid hcp
  have HOW := Lib.hid how
  have HPB := Lib.hid hpb
  have HWB := Lib.hid hwb
  clear hcp how hpb hwb
  go_cut [8, 9] (fun v8 v9 wc => v8 = .slice none 0 0 ∧ v9 = .int .i64 e ∧ Fr (fun _ => False) W1 wc)
  case first =>
    go_region_held3 (fun w' => w'.cell? ⟨w1.heap.size, 0, none⟩ = some (.slice A S.sizes.length c) ∧ w'.cell? ⟨w1.heap.size, 1, none⟩ = some (.int .i64 S.params) ∧ w'.cell? ⟨w1.heap.size, 2, none⟩ = some (.int .i64 S.regs) ∧ w'.cell? ⟨w1.heap.size, 3, none⟩ = some (.int .i64 S.code) ∧ w'.cell? ⟨w1.heap.size, 4, none⟩ = some (.int .i64 S.spill) ∧ w'.cell? ⟨w1.heap.size, 5, none⟩ = some (.slice A2 S.blocks.length c2)) (first | exact ⟨q0, q1, q2, q3, q4, q5⟩ | exact ⟨k0, k1, k2, k3, k4, k5⟩ | (go_keep; done))
          (first
            | (go_at_call 13; go_loud ((with_reducible refine (HCP.out _ ?f).mono ?_); (case f => first | exact HF.out.drewN _ | exact HF.out | exact (Fr.refl _ _).drewN _ | exact Fr.refl _ _); rintro x w2 ⟨A', c', A2', c2', rfl, hu2, hf2, hf3⟩; have k0 : w2.cell? ⟨w1.heap.size, 0, none⟩ = some (.slice A S.sizes.length c) := hf2.cell q0 not_false; have k1 : w2.cell? ⟨w1.heap.size, 1, none⟩ = some (.int .i64 S.params) := hf2.cell q1 not_false; have k2 : w2.cell? ⟨w1.heap.size, 2, none⟩ = some (.int .i64 S.regs) := hf2.cell q2 not_false; have k3 : w2.cell? ⟨w1.heap.size, 3, none⟩ = some (.int .i64 S.code) := hf2.cell q3 not_false; have k4 : w2.cell? ⟨w1.heap.size, 4, none⟩ = some (.int .i64 S.spill) := hf2.cell q4 not_false; have k5 : w2.cell? ⟨w1.heap.size, 5, none⟩ = some (.slice A2 S.blocks.length c2) := hf2.cell q5 not_false; have HF := Lib.hid hf2; have HU := Lib.hid hu2; have HG2 := Lib.hid hf3; clear hu2 hf2 hf3))
            | (go_at_call 20; go_loud ((with_reducible refine (HOW.out _ ?f).mono ?_); (case f => first | exact HF.out.drewN _ | exact HF.out | exact (Fr.refl _ _).drewN _ | exact Fr.refl _ _); rintro x w4 ⟨A3, c3, rfl, hr4, hf2, hf3⟩; have k0 : w4.cell? ⟨w1.heap.size, 0, none⟩ = some (.slice A S.sizes.length c) := hf2.cell q0 not_false; have k1 : w4.cell? ⟨w1.heap.size, 1, none⟩ = some (.int .i64 S.params) := hf2.cell q1 not_false; have k2 : w4.cell? ⟨w1.heap.size, 2, none⟩ = some (.int .i64 S.regs) := hf2.cell q2 not_false; have k3 : w4.cell? ⟨w1.heap.size, 3, none⟩ = some (.int .i64 S.code) := hf2.cell q3 not_false; have k4 : w4.cell? ⟨w1.heap.size, 4, none⟩ = some (.int .i64 S.spill) := hf2.cell q4 not_false; have k5 : w4.cell? ⟨w1.heap.size, 5, none⟩ = some (.slice A2 S.blocks.length c2) := hf2.cell q5 not_false; have HF := Lib.hid hf2; have HR := Lib.hid hr4; have HG4 := Lib.hid hf3; clear hr4 hf2 hf3))
            | (go_at_call 24; go_loud (rw [HWR.out]; (with_reducible refine (HPB.out _ _ _ _ _ _ _ _ HU.out ?fu ?f).mono ?_); (case fu => first | exact (Fr.refl _ _).drewN _ | exact Fr.refl _ _ | exact Fr.drewN (Fr.then_ ((Fr.refl _ _).drewN _) HG4.out) _ | exact Fr.then_ ((Fr.refl _ _).drewN _) HG4.out | exact Fr.drewN (Fr.then_ (Fr.refl _ _) HG4.out) _ | exact Fr.then_ (Fr.refl _ _) HG4.out); (case f => first | exact HF.out.drewN _ | exact HF.out | exact (Fr.refl _ _).drewN _ | exact Fr.refl _ _); rintro x w5 ⟨rfl, hf5⟩; have k0 : w5.cell? ⟨w1.heap.size, 0, none⟩ = some (.slice A S.sizes.length c) := hf5.cell q0 not_false; have k1 : w5.cell? ⟨w1.heap.size, 1, none⟩ = some (.int .i64 S.params) := hf5.cell q1 not_false; have k2 : w5.cell? ⟨w1.heap.size, 2, none⟩ = some (.int .i64 S.regs) := hf5.cell q2 not_false; have k3 : w5.cell? ⟨w1.heap.size, 3, none⟩ = some (.int .i64 S.code) := hf5.cell q3 not_false; have k4 : w5.cell? ⟨w1.heap.size, 4, none⟩ = some (.int .i64 S.spill) := hf5.cell q4 not_false; have k5 : w5.cell? ⟨w1.heap.size, 5, none⟩ = some (.slice A2 S.blocks.length c2) := hf5.cell q5 not_false; have HF := Lib.hid hf5; clear hf5)))
    all_goals
      go_wp2
      go_meet
      exact ⟨rfl, rfl, HF.out⟩
  case rest =>
    obtain ⟨rfl, rfl, hf0⟩ := hcut
    have p0 : wc.cell? ⟨w1.heap.size, 0, none⟩ = some (.slice A S.sizes.length c) := hf0.cell q0 not_false
    have p1 : wc.cell? ⟨w1.heap.size, 1, none⟩ = some (.int .i64 S.params) := hf0.cell q1 not_false
    have p2 : wc.cell? ⟨w1.heap.size, 2, none⟩ = some (.int .i64 S.regs) := hf0.cell q2 not_false
    have p3 : wc.cell? ⟨w1.heap.size, 3, none⟩ = some (.int .i64 S.code) := hf0.cell q3 not_false
    have p4 : wc.cell? ⟨w1.heap.size, 4, none⟩ = some (.int .i64 S.spill) := hf0.cell q4 not_false
    have p5 : wc.cell? ⟨w1.heap.size, 5, none⟩ = some (.slice A2 S.blocks.length c2) := hf0.cell q5 not_false
    have HS0 := Lib.hid hf0
    clear hf0
    go_upto_region 3 with fail
    go_cut [10, 11] (fun v10 v11 wd => v10 = .slice none 0 0 ∧ v11 = .int .i64 e ∧ Fr (fun _ => False) W1 wd)
    case first =>
      go_region_held3 (fun w' => w'.cell? ⟨w1.heap.size, 0, none⟩ = some (.slice A S.sizes.length c) ∧ w'.cell? ⟨w1.heap.size, 1, none⟩ = some (.int .i64 S.params) ∧ w'.cell? ⟨w1.heap.size, 2, none⟩ = some (.int .i64 S.regs) ∧ w'.cell? ⟨w1.heap.size, 3, none⟩ = some (.int .i64 S.code) ∧ w'.cell? ⟨w1.heap.size, 4, none⟩ = some (.int .i64 S.spill) ∧ w'.cell? ⟨w1.heap.size, 5, none⟩ = some (.slice A2 S.blocks.length c2)) (first | exact ⟨p0, p1, p2, p3, p4, p5⟩ | exact ⟨k0, k1, k2, k3, k4, k5⟩ | (go_keep; done))
            (first
              | (go_at_call 13; go_loud ((with_reducible refine (HCP.out _ ?f).mono ?_); (case f => first | exact HF.out.drewN _ | exact HF.out | exact HS0.out.drewN _ | exact HS0.out); rintro x w2 ⟨A', c', A2', c2', rfl, hu2, hf2, hf3⟩; have k0 : w2.cell? ⟨w1.heap.size, 0, none⟩ = some (.slice A S.sizes.length c) := hf2.cell q0 not_false; have k1 : w2.cell? ⟨w1.heap.size, 1, none⟩ = some (.int .i64 S.params) := hf2.cell q1 not_false; have k2 : w2.cell? ⟨w1.heap.size, 2, none⟩ = some (.int .i64 S.regs) := hf2.cell q2 not_false; have k3 : w2.cell? ⟨w1.heap.size, 3, none⟩ = some (.int .i64 S.code) := hf2.cell q3 not_false; have k4 : w2.cell? ⟨w1.heap.size, 4, none⟩ = some (.int .i64 S.spill) := hf2.cell q4 not_false; have k5 : w2.cell? ⟨w1.heap.size, 5, none⟩ = some (.slice A2 S.blocks.length c2) := hf2.cell q5 not_false; have HF := Lib.hid hf2; have HU := Lib.hid hu2; have HG2 := Lib.hid hf3; clear hu2 hf2 hf3))
              | (go_at_call 20; go_loud ((with_reducible refine (HOW.out _ ?f).mono ?_); (case f => first | exact HF.out.drewN _ | exact HF.out | exact HS0.out.drewN _ | exact HS0.out); rintro x w4 ⟨A3, c3, rfl, hr4, hf2, hf3⟩; have k0 : w4.cell? ⟨w1.heap.size, 0, none⟩ = some (.slice A S.sizes.length c) := hf2.cell q0 not_false; have k1 : w4.cell? ⟨w1.heap.size, 1, none⟩ = some (.int .i64 S.params) := hf2.cell q1 not_false; have k2 : w4.cell? ⟨w1.heap.size, 2, none⟩ = some (.int .i64 S.regs) := hf2.cell q2 not_false; have k3 : w4.cell? ⟨w1.heap.size, 3, none⟩ = some (.int .i64 S.code) := hf2.cell q3 not_false; have k4 : w4.cell? ⟨w1.heap.size, 4, none⟩ = some (.int .i64 S.spill) := hf2.cell q4 not_false; have k5 : w4.cell? ⟨w1.heap.size, 5, none⟩ = some (.slice A2 S.blocks.length c2) := hf2.cell q5 not_false; have HF := Lib.hid hf2; have HR := Lib.hid hr4; have HG4 := Lib.hid hf3; clear hr4 hf2 hf3))
              | (go_at_call 25; go_loud (rw [HWR.out]; (with_reducible refine (HWB.out _ _ _ _ _ _ _ _ HU.out ?fu ?f).mono ?_); (case fu => first | exact (Fr.refl _ _).drewN _ | exact Fr.refl _ _ | exact Fr.drewN (Fr.then_ ((Fr.refl _ _).drewN _) HG4.out) _ | exact Fr.then_ ((Fr.refl _ _).drewN _) HG4.out | exact Fr.drewN (Fr.then_ (Fr.refl _ _) HG4.out) _ | exact Fr.then_ (Fr.refl _ _) HG4.out); (case f => first | exact HF.out.drewN _ | exact HF.out | exact HS0.out.drewN _ | exact HS0.out); rintro x w5 ⟨rfl, hf5⟩; have k0 : w5.cell? ⟨w1.heap.size, 0, none⟩ = some (.slice A S.sizes.length c) := hf5.cell q0 not_false; have k1 : w5.cell? ⟨w1.heap.size, 1, none⟩ = some (.int .i64 S.params) := hf5.cell q1 not_false; have k2 : w5.cell? ⟨w1.heap.size, 2, none⟩ = some (.int .i64 S.regs) := hf5.cell q2 not_false; have k3 : w5.cell? ⟨w1.heap.size, 3, none⟩ = some (.int .i64 S.code) := hf5.cell q3 not_false; have k4 : w5.cell? ⟨w1.heap.size, 4, none⟩ = some (.int .i64 S.spill) := hf5.cell q4 not_false; have k5 : w5.cell? ⟨w1.heap.size, 5, none⟩ = some (.slice A2 S.blocks.length c2) := hf5.cell q5 not_false; have HF := Lib.hid hf5; clear hf5)))
      all_goals
        go_wp2
        go_meet
        exact ⟨rfl, rfl, HF.out⟩
    case rest =>
      obtain ⟨rfl, rfl, hf0⟩ := hcut
      have HVR := Lib.hid (HAS.out.env.fr0 hf0)
      have HWR : Hid (Below w.heap.size w wc) := Lib.hid (HBW.out.trans (hf0.below (fun _ h => h.elim) HBW.out.size))
      clear hf0
      go_wp2_with (go_at_call 16; refine (alive_true HVR.out).mono ?_; rintro x w6 ⟨rfl, hb⟩; have HB6 := Lib.hid hb; clear hb)
      go_ret
      exact ⟨rfl, HWR.out.trans (HB6.out.mono HWR.out.size)⟩
end Go.Proofs.YtfkjkdoloamakaaDoor
