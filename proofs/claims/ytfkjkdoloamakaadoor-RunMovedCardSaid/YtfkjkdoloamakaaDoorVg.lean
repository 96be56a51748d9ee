/- RunMoved, walked. -/
import Derived.Test.YtfkjkdoloamakaaDoorVf
namespace Go.Proofs.YtfkjkdoloamakaaDoor
open Go.RowKit
set_option linter.unusedVariables false
set_option linter.unusedSimpArgs false
variable {w : World} {F F2 F3 : Nat → Prop} {U : UnS} {Av Ab : Option Addr} {cv cb : Nat}

set_option maxRecDepth 100000 in
set_option maxHeartbeats 4000000 in
theorem law_moved (hu : UnIn F w U Av cv Ab cb) (V : Env w) (hz1 : U.sizes.length ≤ 17592186044416) (hz2 : U.blocks.length * 64 ≤ 140737488355328) (hz3 : ∀ b ∈ U.blocks, b.ops.length * 56 ≤ 140737488355328)
    (args : List Int) (Aa : Option Addr) (ca : Nat) (hA : Row F2 w (.slice Aa args.length ca) args.length 1 (numV args)) (hal : args.length ≤ maxLen)
    (told : List Int) (At : Option Addr) (ct : Nat) (hT : Row F3 w (.slice At told.length ct) told.length 1 (told.map (Value.int .u8))) (ht : ∀ x ∈ told, 0 ≤ x ∧ x ≤ 255) :
    Calls Tryd.prog 4 #[unV U Av cv Ab cb, .slice Aa args.length ca, .slice At told.length ct] w fun x w' => x = .returned (.bool true) ∧ Below w.heap.size w w' := by
  obtain ⟨W0, hW0⟩ : ∃ W0, W0 = w.alloc (.cells (unC U Av cv Ab cb) 25) := ⟨_, rfl⟩
  have hb0 : Below w.heap.size w W0 := by rw [hW0]; exact (Below.refl _ _).alloc (Nat.le_refl _) _
  have hsm := small_any (hu.below hb0) hz1 hz2 hz3
  obtain ⟨S, hS⟩ : ∃ S, S = smallU U := ⟨_, rfl⟩
  have z1 := small_sizes U
  have z2 := small_blocks U
  have z3 := small_ops U
  rw [← hS] at hsm z1 z2 z3
  obtain ⟨y1, y2⟩ := lens_of z1 z2 z3
  have HW0 := Lib.hid hW0
  have H0 := Lib.hid hb0
  have HSM := Lib.hid hsm
  have HV := Lib.hid V
  have HA := Lib.hid (show Row (fun g => g < w.heap.size) w (.slice Aa args.length ca) args.length 1 (numV args) from hA.mono fun _ _ h => h)
  have HT := Lib.hid hT
  have HTR := Lib.hid ht
  have HY1 := Lib.hid y1
  have HY2 := Lib.hid y2
  unfold maxLen at hal
  clear hu V hS hsm hb0 hW0 hA hT ht y1 y2
  by_cases hE : unErr S = 0
  · have hf := un_zero hE
    obtain ⟨l, hl⟩ : ∃ l, l = ownL args (ownN S) := ⟨_, rfl⟩
    have hn1 := (own_len hf args).1
    have hn2 := (own_len hf args).2
    rw [← hl] at hn1 hn2
    have HOWN : Hid (∀ (w' : World) (A : Option Addr) (c : Nat) (A2 : Option Addr) (c2 : Nat), Below w.heap.size w w' → Calls Tryd.prog 20 #[unV S A c A2 c2, .slice Aa args.length ca] w' fun x w'' => ∃ v, x = .returned v ∧ w''.ownsRow w'.heap.size 2 1 v l.length (numV l) ∧ Below w'.heap.size w' w'') := Lib.hid (fun w' A c A2 c2 hb => by
      have h := own_any (U := S) (Av := A) (cv := c) (Ab := A2) (cb := c2) args Aa ca (HA.out.fr (M := fun _ => False) (Fr.of_below hb) fun _ _ => not_false) (by unfold maxLen; exact hal)
      rw [← hl, ← hn2] at h
      exact h)
    have HMOV : Hid (∀ (w' : World) (A : Option Addr) (c : Nat) (A2 : Option Addr) (c2 : Nat), UnIn (fun g => g < w'.heap.size) w' S A c A2 c2 → Below w.heap.size w w' → Calls Tryd.prog 19 #[unV S A c A2 c2, .slice At told.length ct] w' fun x w'' => ∃ Y B R A c A2 c2 v1 v2, x = .returned (.tuple #[unV Y A c A2 c2, v1, v2]) ∧ Mov B R S Y ∧ Y.blocks.length = S.blocks.length ∧ UnIn (fun g => g < w''.heap.size) w'' Y A c A2 c2 ∧ Below w'.heap.size w' w'') := Lib.hid (fun w' A c A2 c2 hu hb =>
      moved_any hu hf z1 z2 z3 told At ct (HT.out.fr (M := fun _ => False) (Fr.of_below hb) fun _ _ => not_false) HTR.out)
    have S0 := StGood.init (fine_good hf) l (by have := hf.p3; omega)
    have S1 := StGood.run (fine_good hf) (20000 : Int).toNat _ S0 (by show (0 : Int) + _ ≤ _; omega)
    obtain ⟨sF, hsF⟩ : ∃ sF, sF = St.run S (20000 : Int).toNat (St.init S l) := ⟨_, rfl⟩
    rw [← hsF] at S1
    have hst := (St.run_steps S (20000 : Int).toNat (St.init S l)).2
    rw [← hsF] at hst
    have hst0 : (St.init S l).steps = 0 := rfl
    have hpl : sF.prints.length ≤ 10000000000000 := by have := S1.pr; omega
    obtain ⟨kd, hkd⟩ : ∃ x, x = kindO sF.kind := ⟨_, rfl⟩
    obtain ⟨vl, hvl⟩ : ∃ x, x = sF.val := ⟨_, rfl⟩
    obtain ⟨st, hse⟩ : ∃ x, x = sF.steps := ⟨_, rfl⟩
    obtain ⟨np, hnp⟩ : ∃ x, x = sF.prints.length := ⟨_, rfl⟩
    have HR1 : Hid (∀ (w' : World) (A : Option Addr) (c : Nat) (A2 : Option Addr) (c2 : Nat) (A3 : Option Addr) (c3 : Nat), UnIn (fun g => g < w'.heap.size) w' S A c A2 c2 → Env w' → Row (fun g => g < w'.heap.size) w' (.slice A3 l.length c3) l.length 1 (numV l) → Calls Tryd.prog 12 #[unV S A c A2 c2, .slice A3 l.length c3, .int .i64 20000] w' fun x w'' => ∃ v, x = .returned (.tuple #[.agg #[v, .int .i64 kd, .int .i64 vl], .int .i64 st, .int .i64 0]) ∧ RdN w'' v sF.prints ∧ Below w'.heap.size w' w'') := Lib.hid (fun w' A c A2 c2 A3 c3 hu hv hr => by
      have h := run_ok (ck_fine hf hu hv) (fine_good hf) hv hu l A3 c3 hr hn1 20000 (by decide) (by decide)
      rw [← hsF, ← hkd, ← hvl, ← hse] at h
      exact h)
    have HR2 : Hid (∀ (w' : World) (Y : UnS) (B R : List Int) (M : Mov B R S Y) (A : Option Addr) (c : Nat) (A2 : Option Addr) (c2 : Nat) (A3 : Option Addr) (c3 : Nat), UnIn (fun g => g < w'.heap.size) w' Y A c A2 c2 → Env w' → Row (fun g => g < w'.heap.size) w' (.slice A3 l.length c3) l.length 1 (numV l) → Calls Tryd.prog 12 #[unV Y A c A2 c2, .slice A3 l.length c3, .int .i64 20000] w' fun x w'' => ∃ v, x = .returned (.tuple #[.agg #[v, .int .i64 kd, .int .i64 vl], .int .i64 st, .int .i64 0]) ∧ RdN w'' v sF.prints ∧ Below w'.heap.size w' w'') := Lib.hid (fun w' Y B R M A c A2 c2 A3 c3 hu hv hr => by
      have hfy := M.fine hf
      have sim := Sim.run M hf (20000 : Int).toNat _ _ (Sim.init M hf l hn1) S0 (by rw [hst0]; omega)
      rw [← hsF] at sim
      have h := run_ok (ck_fine hfy hu hv) (fine_good hfy) hv hu l A3 c3 hr (by rw [M.pa]; exact hn1) 20000 (by decide) (by decide)
      rw [sim.kind, sim.val, sim.steps, sim.prints, ← hkd, ← hvl, ← hse] at h
      exact h)
    have HE := Lib.hid hE
    have HNP := Lib.hid hnp
    have HPL := Lib.hid hpl
    clear hf hl hn1 hn2 hE S0 S1 hsF hst hst0 hpl hkd hvl hse hnp
    unfold unV unC at *
    go_enter Tryd.func4, Tryd.ntmps4
    go_wp2_with (first
      | (go_at_call 10; go_loud (rw [← HW0.out]; refine HSM.out.mono ?_; rintro x w1 ⟨A, c, A2, c2, rfl, hun, hb⟩; obtain ⟨W1, hW1⟩ : ∃ W1, W1 = w1.alloc (.cells #[.slice A S.sizes.length c, .int .i64 S.params, .int .i64 S.regs, .int .i64 S.code, .int .i64 S.spill, .slice A2 S.blocks.length c2] 25) := ⟨_, rfl⟩; have hb1 : Below w.heap.size w w1 := H0.out.trans (hb.mono H0.out.size); have hbW : Below w.heap.size w W1 := hW1 ▸ hb1.alloc hb1.size _; have hunW : UnIn (fun g => g < w1.heap.size) W1 S A c A2 c2 := hW1 ▸ (hun.mono (fun g hg hlt => hlt) (fun g hg => hg)).below ((Below.refl _ _).alloc (Nat.le_refl _) _); have hbl : Blk W1 w1.heap.size 25 #[.slice A S.sizes.length c, .int .i64 S.params, .int .i64 S.regs, .int .i64 S.code, .int .i64 S.spill, .slice A2 S.blocks.length c2] := hW1 ▸ blk_new _ rfl _ _; have HW1 := Lib.hid hW1; have HUW := Lib.hid hunW; have HBW := Lib.hid hbW; have HBL := Lib.hid hbl; have HVW := Lib.hid (HV.out.below hbW); clear hW1 hun hb hb1 hbW hunW hbl))
      | (go_at_call 13; go_loud (rw [← HW1.out]; refine (copy_any HUW.out z1 z2 z3).mono ?_; rintro x w2 ⟨A', c', A2', c2', rfl, hun2, hb2⟩; have HU2 := Lib.hid hun2; have HB2 := Lib.hid hb2; clear hun2 hb2; unfold unV))
      | (go_at_call 18; go_loud (refine (ck_any HU2.out (HVW.out.below HB2.out) HY1.out HY2.out w2 (Below.refl _ _)).mono ?_; rintro x w3 ⟨rfl, hb3⟩; rw [HE.out]; have hb23 := HB2.out.trans (hb3.mono HB2.out.size); have hbk := HBL.out.below hb23; have q0 : w3.cell? ⟨w1.heap.size, 0, none⟩ = some (.slice A S.sizes.length c) := (hbk.cell 0).trans rfl; have q1 : w3.cell? ⟨w1.heap.size, 1, none⟩ = some (.int .i64 S.params) := (hbk.cell 1).trans rfl; have q2 : w3.cell? ⟨w1.heap.size, 2, none⟩ = some (.int .i64 S.regs) := (hbk.cell 2).trans rfl; have q3 : w3.cell? ⟨w1.heap.size, 3, none⟩ = some (.int .i64 S.code) := (hbk.cell 3).trans rfl; have q4 : w3.cell? ⟨w1.heap.size, 4, none⟩ = some (.int .i64 S.spill) := (hbk.cell 4).trans rfl; have q5 : w3.cell? ⟨w1.heap.size, 5, none⟩ = some (.slice A2 S.blocks.length c2) := (hbk.cell 5).trans rfl; have HB3 := Lib.hid hb23; clear hb3 hb23 hbk))
      | (go_at_call 19; go_loud ((with_reducible refine (HMOV.out w3 A c A2 c2 (HUW.out.below HB3.out).all (HBW.out.trans (HB3.out.mono HBW.out.size))).mono ?_); rintro x w4 ⟨Y, B, R, A7, c7, A8, c8, v1, v2, rfl, hM, hYl, hYu, hb4⟩; have hb14 := HB3.out.trans (hb4.mono HB3.out.size); have hbk := HBL.out.below hb14; have r0 : w4.cell? ⟨w1.heap.size, 0, none⟩ = some (.slice A S.sizes.length c) := (hbk.cell 0).trans rfl; have r1 : w4.cell? ⟨w1.heap.size, 1, none⟩ = some (.int .i64 S.params) := (hbk.cell 1).trans rfl; have r2 : w4.cell? ⟨w1.heap.size, 2, none⟩ = some (.int .i64 S.regs) := (hbk.cell 2).trans rfl; have r3 : w4.cell? ⟨w1.heap.size, 3, none⟩ = some (.int .i64 S.code) := (hbk.cell 3).trans rfl; have r4 : w4.cell? ⟨w1.heap.size, 4, none⟩ = some (.int .i64 S.spill) := (hbk.cell 4).trans rfl; have r5 : w4.cell? ⟨w1.heap.size, 5, none⟩ = some (.slice A2 S.blocks.length c2) := (hbk.cell 5).trans rfl; obtain ⟨W4, hW4⟩ : ∃ W4, W4 = w4.alloc (.cells #[.slice A7 Y.sizes.length c7, .int .i64 Y.params, .int .i64 Y.regs, .int .i64 Y.code, .int .i64 Y.spill, .slice A8 Y.blocks.length c8] 25) := ⟨_, rfl⟩; have hb1W : Below W1.heap.size W1 W4 := hW4 ▸ hb14.alloc hb14.size _; have hYb : Blk W4 w4.heap.size 25 #[.slice A7 Y.sizes.length c7, .int .i64 Y.params, .int .i64 Y.regs, .int .i64 Y.code, .int .i64 Y.spill, .slice A8 Y.blocks.length c8] := hW4 ▸ blk_new _ rfl _ _; have hYW : UnIn (fun g => g < w4.heap.size) W4 Y A7 c7 A8 c8 := hW4 ▸ hYu.below ((Below.refl _ _).alloc (Nat.le_refl _) _); have nlt : w1.heap.size < w4.heap.size := hbk.lt; have nne : w1.heap.size ≠ w4.heap.size := Nat.ne_of_lt nlt; have nne' := nne.symm; have HM := Lib.hid hM; have HW4 := Lib.hid hW4; have HB4 := Lib.hid hb1W; have HYB := Lib.hid hYb; have HYW := Lib.hid hYW; clear hM hYl hYu hb4 hb14 hbk hW4 hb1W hYb hYW q0 q1 q2 q3 q4 q5))
      | (go_at_call 20; go_loud (rw [← HW4.out]; (with_reducible refine (HOWN.out W4 A c A2 c2 (HBW.out.trans (HB4.out.mono HBW.out.size))).mono ?_); rintro x w5 ⟨v, rfl, hv, hb5⟩; obtain ⟨A3, c3, rfl⟩ := own_shape hv; have hb15 := HB4.out.trans (hb5.mono HB4.out.size); have hbk := HBL.out.below hb15; have hby := HYB.out.below hb5; have s0 : w5.cell? ⟨w1.heap.size, 0, none⟩ = some (.slice A S.sizes.length c) := (hbk.cell 0).trans rfl; have s1 : w5.cell? ⟨w1.heap.size, 1, none⟩ = some (.int .i64 S.params) := (hbk.cell 1).trans rfl; have s2 : w5.cell? ⟨w1.heap.size, 2, none⟩ = some (.int .i64 S.regs) := (hbk.cell 2).trans rfl; have s3 : w5.cell? ⟨w1.heap.size, 3, none⟩ = some (.int .i64 S.code) := (hbk.cell 3).trans rfl; have s4 : w5.cell? ⟨w1.heap.size, 4, none⟩ = some (.int .i64 S.spill) := (hbk.cell 4).trans rfl; have s5 : w5.cell? ⟨w1.heap.size, 5, none⟩ = some (.slice A2 S.blocks.length c2) := (hbk.cell 5).trans rfl; have u0 : w5.cell? ⟨w4.heap.size, 0, none⟩ = some (.slice A7 Y.sizes.length c7) := (hby.cell 0).trans rfl; have u1 : w5.cell? ⟨w4.heap.size, 1, none⟩ = some (.int .i64 Y.params) := (hby.cell 1).trans rfl; have u2 : w5.cell? ⟨w4.heap.size, 2, none⟩ = some (.int .i64 Y.regs) := (hby.cell 2).trans rfl; have u3 : w5.cell? ⟨w4.heap.size, 3, none⟩ = some (.int .i64 Y.code) := (hby.cell 3).trans rfl; have u4 : w5.cell? ⟨w4.heap.size, 4, none⟩ = some (.int .i64 Y.spill) := (hby.cell 4).trans rfl; have u5 : w5.cell? ⟨w4.heap.size, 5, none⟩ = some (.slice A8 Y.blocks.length c8) := (hby.cell 5).trans rfl; have hrow : Row (fun g => g < w5.heap.size) w5 (.slice A3 l.length c3) l.length 1 (numV l) := (Row.of_own (N := fun g => True) hv (fun _ _ => trivial) (by decide)).mono (fun _ _ h => h); have HROW := Lib.hid hrow; have HB5 := Lib.hid hb15; have HY5 := Lib.hid (HYW.out.below hb5).all; have HU5 := Lib.hid (HUW.out.below hb15).all; have HYB5 := Lib.hid hby; have HV5 := Lib.hid (HVW.out.below hb15); clear hv hb5 hb15 hbk hby hrow r0 r1 r2 r3 r4 r5 nlt nne nne'))
      | (go_at_call 12; go_loud ((with_reducible refine (HR1.out w5 A c A2 c2 A3 c3 HU5.out HV5.out HROW.out).mono ?_); rintro x w6 ⟨v, rfl, hv, hb6⟩; obtain ⟨A5, c5, rfl, _⟩ := hv.shape; rw [← HNP.out] at hv ⊢; obtain ⟨W6, hW6⟩ : ∃ W6, W6 = w6.alloc (.cells #[.slice A5 np c5, .int .i64 kd, .int .i64 vl] 30) := ⟨_, rfl⟩; have hb56 : Below w5.heap.size w5 W6 := (by rw [hW6]; exact hb6.alloc hb6.size _); have hr6 : RdN W6 (.slice A5 np c5) sF.prints := hW6 ▸ hv.below ((Below.refl _ _).alloc (Nat.le_refl _) _); have hob : Blk W6 w6.heap.size 30 #[.slice A5 np c5, .int .i64 kd, .int .i64 vl] := hW6 ▸ blk_new _ rfl _ _; have hby := HYB5.out.below hb6; have s0 : w6.cell? ⟨w4.heap.size, 0, none⟩ = some (.slice A7 Y.sizes.length c7) := (hby.cell 0).trans rfl; have s1 : w6.cell? ⟨w4.heap.size, 1, none⟩ = some (.int .i64 Y.params) := (hby.cell 1).trans rfl; have s2 : w6.cell? ⟨w4.heap.size, 2, none⟩ = some (.int .i64 Y.regs) := (hby.cell 2).trans rfl; have s3 : w6.cell? ⟨w4.heap.size, 3, none⟩ = some (.int .i64 Y.code) := (hby.cell 3).trans rfl; have s4 : w6.cell? ⟨w4.heap.size, 4, none⟩ = some (.int .i64 Y.spill) := (hby.cell 4).trans rfl; have s5 : w6.cell? ⟨w4.heap.size, 5, none⟩ = some (.slice A8 Y.blocks.length c8) := (hby.cell 5).trans rfl; have nlt : w4.heap.size < w6.heap.size := hby.lt; have nne : w4.heap.size ≠ w6.heap.size := Nat.ne_of_lt nlt; have nne' := nne.symm; have HW6 := Lib.hid hW6; have HB56 := Lib.hid hb56; have HR6 := Lib.hid hr6; have HOB := Lib.hid hob; clear hW6 hb56 hr6 hob hby hb6 hv u0 u1 u2 u3 u4 u5))
      | (go_at_call 12; go_loud (rw [← HW6.out]; (with_reducible refine (HR2.out W6 Y B R HM.out A7 c7 A8 c8 A3 c3 (HY5.out.below HB56.out).all (HV5.out.below HB56.out) (row_nx HROW.out (Fr.of_below HB56.out))).mono ?_); rintro x w7 ⟨v, rfl, hv, hb7⟩; obtain ⟨A6, c6, rfl, _⟩ := hv.shape; rw [← HNP.out] at hv ⊢; obtain ⟨W7, hW7⟩ : ∃ W7, W7 = w7.alloc (.cells #[.slice A6 np c6, .int .i64 kd, .int .i64 vl] 30) := ⟨_, rfl⟩; have hb67 : Below W6.heap.size W6 W7 := (by rw [hW7]; exact hb7.alloc hb7.size _); have hr7 := HR6.out.below hb67; have hs7 : RdN W7 (.slice A6 np c6) sF.prints := hW7 ▸ hv.below ((Below.refl _ _).alloc (Nat.le_refl _) _); have hob7 := HOB.out.below hb7; have mlt : w6.heap.size < w7.heap.size := hob7.lt; have mne : w6.heap.size ≠ w7.heap.size := Nat.ne_of_lt mlt; have mne' := mne.symm; have k0 : w7.cell? ⟨w6.heap.size, 0, none⟩ = some (.slice A5 np c5) := (hob7.cell 0).trans rfl; have k1 : w7.cell? ⟨w6.heap.size, 1, none⟩ = some (.int .i64 kd) := (hob7.cell 1).trans rfl; have k2 : w7.cell? ⟨w6.heap.size, 2, none⟩ = some (.int .i64 vl) := (hob7.cell 2).trans rfl; have HW7 := Lib.hid hW7; have HR7 := Lib.hid hr7; have HS7 := Lib.hid hs7; have HB67 := Lib.hid hb67; clear hW7 hr7 hs7 hob7 hb7 hb67 hv s0 s1 s2 s3 s4 s5 nlt nne nne'))
      | (go_at_call 15; go_loud (try rw [← HW7.out]; refine (outs_true kd vl sF.prints HR7.out HS7.out HPL.out).mono ?_; rintro x w8 ⟨rfl, hb8⟩; have hb58 := HB56.out.trans ((HB67.out.trans (hb8.mono HB67.out.size)).mono HB56.out.size); have hb18 := HB5.out.trans (hb58.mono HB5.out.size); have HVR := Lib.hid (HVW.out.below hb18); have HWR := Lib.hid (HBW.out.trans (hb18.mono HBW.out.size)); clear hb8 hb58 hb18))
      | (go_at_call 16; refine (alive_true HVR.out).mono ?_; rintro x w9 ⟨rfl, hb⟩; have HB9 := Lib.hid hb; clear hb))
    go_ret
    exact ⟨rfl, HWR.out.trans (HB9.out.mono HWR.out.size)⟩
  · obtain ⟨e, he⟩ : ∃ e, e = unErr S := ⟨_, rfl⟩
    rw [← he] at hE
    have hn : (e != 0) = true := by simpa using hE
    have HE := Lib.hid he.symm
    clear he hE
    unfold unV unC at *
    go_enter Tryd.func4, Tryd.ntmps4
    go_wp2_with (first
      | (go_at_call 10; go_loud (rw [← HW0.out]; refine HSM.out.mono ?_; rintro x w1 ⟨A, c, A2, c2, rfl, hun, hb⟩; obtain ⟨W1, hW1⟩ : ∃ W1, W1 = w1.alloc (.cells #[.slice A S.sizes.length c, .int .i64 S.params, .int .i64 S.regs, .int .i64 S.code, .int .i64 S.spill, .slice A2 S.blocks.length c2] 25) := ⟨_, rfl⟩; have hb1 : Below w.heap.size w w1 := H0.out.trans (hb.mono H0.out.size); have hbW : Below w.heap.size w W1 := hW1 ▸ hb1.alloc hb1.size _; have hunW : UnIn (fun g => g < w1.heap.size) W1 S A c A2 c2 := hW1 ▸ (hun.mono (fun g hg hlt => hlt) (fun g hg => hg)).below ((Below.refl _ _).alloc (Nat.le_refl _) _); have hbl : Blk W1 w1.heap.size 25 #[.slice A S.sizes.length c, .int .i64 S.params, .int .i64 S.regs, .int .i64 S.code, .int .i64 S.spill, .slice A2 S.blocks.length c2] := hW1 ▸ blk_new _ rfl _ _; have HW1 := Lib.hid hW1; have HUW := Lib.hid hunW; have HBW := Lib.hid hbW; have HBL := Lib.hid hbl; have HVW := Lib.hid (HV.out.below hbW); clear hW1 hun hb hb1 hbW hunW hbl))
      | (go_at_call 13; go_loud (rw [← HW1.out]; refine (copy_any HUW.out z1 z2 z3).mono ?_; rintro x w2 ⟨A', c', A2', c2', rfl, hun2, hb2⟩; have HU2 := Lib.hid hun2; have HB2 := Lib.hid hb2; clear hun2 hb2; unfold unV))
      | (go_at_call 18; go_loud (refine (ck_any HU2.out (HVW.out.below HB2.out) HY1.out HY2.out w2 (Below.refl _ _)).mono ?_; rintro x w3 ⟨rfl, hb3⟩; rw [HE.out]; have hb23 := HB2.out.trans (hb3.mono HB2.out.size); have HVR := Lib.hid (HVW.out.below hb23); have HWR := Lib.hid (HBW.out.trans (hb23.mono HBW.out.size)); clear hb3 hb23))
      | (go_at_call 16; refine (alive_true HVR.out).mono ?_; rintro x w9 ⟨rfl, hb⟩; have HB9 := Lib.hid hb; clear hb))
    go_ret
    exact ⟨rfl, HWR.out.trans (HB9.out.mono HWR.out.size)⟩
end Go.Proofs.YtfkjkdoloamakaaDoor
