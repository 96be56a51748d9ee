/- RunPoison, walked. -/
import Derived.Test.YtfkjkdoloamakaaDoorYl
import Derived.Test.YtfkjkdoloamakaaDoorYo
import Derived.Test.YtfkjkdoloamakaaDoorUa
import Derived.Deep.RegionHeld3
namespace Go.Proofs.YtfkjkdoloamakaaDoor
open Go.RowKit
set_option linter.unusedVariables false
set_option linter.unusedSimpArgs false
variable {w : World} {F F2 F3 : Nat → Prop} {U : UnS} {Av Ab : Option Addr} {cv cb : Nat}

theorem getD_memP {α : Type} {l : List α} {i : Nat} (d : α) (h : i < l.length) : l.getD i d ∈ l := by
  rw [List.getD_eq_getElem?_getD, List.getElem?_eq_getElem h]; exact List.getElem_mem _
theorem reg_held {R C : List Bool} {s : St} (S : StGood U s) (h : Snd R C s) (k : Nat) (hk : k < s.regs.length) : (s.reg (k : Int)).2 ≠ 0 → mb R (k : Int) = true ∧ (s.reg (k : Int)).1 = 0 := fun hb => by
  refine ⟨h.reg _ hb, ?_⟩
  have hf := S.form _ (getD_memP (0, 0) hk)
  unfold fm at hf
  unfold St.reg at hb ⊢
  rw [Int.toNat_natCast] at hb ⊢
  simp at hf hb ⊢
  exact hf.resolve_left hb
theorem kept_held {R C : List Bool} {s : St} (S : StGood U s) (h : Snd R C s) (k : Nat) (hk : k < s.kept.length) : (s.kept.getD (k : Int).toNat (0, 0)).2 ≠ 0 → mb C (k : Int) = true ∧ (s.kept.getD (k : Int).toNat (0, 0)).1 = 0 := fun hb => by
  refine ⟨h.c _ hb, ?_⟩
  rw [Int.toNat_natCast] at hb ⊢
  have hf := S.form2 _ (getD_memP (0, 0) hk)
  unfold fm at hf
  simp at hf hb ⊢
  exact hf.resolve_left hb
theorem run_one {s : St} (h : s.kind = 0) : St.run U 1 s = s.step U := if_pos h

set_option maxRecDepth 100000 in
set_option maxHeartbeats 8000000 in
theorem law_poison (hu : UnIn F w U Av cv Ab cb) (V : Env w) (hz1 : U.sizes.length ≤ 17592186044416) (hz2 : U.blocks.length * 64 ≤ 140737488355328) (hz3 : ∀ b ∈ U.blocks, b.ops.length * 56 ≤ 140737488355328)
    (args : List Int) (Aa : Option Addr) (ca : Nat) (hA : Row F2 w (.slice Aa args.length ca) args.length 1 (numV args)) (hal : args.length ≤ maxLen) :
    Calls Tryd.prog 9 #[unV U Av cv Ab cb, .slice Aa args.length ca] w fun x w' => x = .returned (.bool true) ∧ Below w.heap.size w w' := by
  obtain ⟨W0, hW0⟩ : ∃ W0, W0 = w.alloc (.cells (unC U Av cv Ab cb) 25) := ⟨_, rfl⟩
  have hb0 : Below w.heap.size w W0 := by rw [hW0]; exact (Below.refl _ _).alloc (Nat.le_refl _) _
  have hsm := small_any (hu.below hb0) hz1 hz2 hz3
  obtain ⟨S, hS⟩ : ∃ S, S = smallU U := ⟨_, rfl⟩
  have z1 := small_sizes U
  have z2 := small_blocks U
  have z3 := small_ops U
  rw [← hS] at hsm z1 z2 z3
  obtain ⟨y1, y2⟩ := lens_of z1 z2 z3
  have HW0 := Lib.hid hW0
  have H0 := Lib.hid hb0
  have HSM := Lib.hid hsm
  have HV := Lib.hid V
  have HA := Lib.hid (show Row (fun g => g < w.heap.size) w (.slice Aa args.length ca) args.length 1 (numV args) from hA.mono fun _ _ h => h)
  have HY1 := Lib.hid y1
  have HY2 := Lib.hid y2
  unfold maxLen at hal
  clear hu V hS hsm hb0 hW0 hA y1 y2
  by_cases hE : unErr S = 0
  · have hf := un_zero hE
    obtain ⟨l, hl⟩ : ∃ l, l = ownL args (ownN S) := ⟨_, rfl⟩
    have hn1 := (own_len hf args).1
    have hn2 := (own_len hf args).2
    rw [← hl] at hn1 hn2
    have HOWN : Hid (∀ (w' : World) (A : Option Addr) (c : Nat) (A2 : Option Addr) (c2 : Nat), Below w.heap.size w w' → Calls Tryd.prog 20 #[unV S A c A2 c2, .slice Aa args.length ca] w' fun x w'' => ∃ v, x = .returned v ∧ w''.ownsRow w'.heap.size 2 1 v l.length (numV l) ∧ Below w'.heap.size w' w'') := Lib.hid (fun w' A c A2 c2 hb => by
      have h := own_any (U := S) (Av := A) (cv := c) (Ab := A2) (cb := c2) args Aa ca (HA.out.fr (M := fun _ => False) (Fr.of_below hb) fun _ _ => not_false) (by unfold maxLen; exact hal)
      rw [← hl, ← hn2] at h
      exact h)
    have HN := Lib.hid hn1
    have HG := Lib.hid (fine_good hf)
    have HE := Lib.hid hE
    clear hf hl hn1 hn2 hE
    unfold unV unC at *
    go_enter Tryd.func9, Tryd.ntmps9
    go_upto_region 6 with (first
      | (go_at_call 10; go_loud (rw [← HW0.out]; refine HSM.out.mono ?_; rintro x w1 ⟨A, c, A2, c2, rfl, hun, hb⟩; obtain ⟨W1, hW1⟩ : ∃ W1, W1 = w1.alloc (.cells #[.slice A S.sizes.length c, .int .i64 S.params, .int .i64 S.regs, .int .i64 S.code, .int .i64 S.spill, .slice A2 S.blocks.length c2] 25) := ⟨_, rfl⟩; have hb1 : Below w.heap.size w w1 := H0.out.trans (hb.mono H0.out.size); have hbW : Below w.heap.size w W1 := hW1 ▸ hb1.alloc hb1.size _; have hunW : UnIn (fun g => g < w1.heap.size) W1 S A c A2 c2 := hW1 ▸ (hun.mono (fun g hg hlt => hlt) (fun g hg => hg)).below ((Below.refl _ _).alloc (Nat.le_refl _) _); have hbl : Blk W1 w1.heap.size 25 #[.slice A S.sizes.length c, .int .i64 S.params, .int .i64 S.regs, .int .i64 S.code, .int .i64 S.spill, .slice A2 S.blocks.length c2] := hW1 ▸ blk_new _ rfl _ _; have HW1 := Lib.hid hW1; have HUW := Lib.hid hunW; have HBW := Lib.hid hbW; have HBL := Lib.hid hbl; have HVW := Lib.hid (HV.out.below hbW); clear hW1 hun hb hb1 hbW hunW hbl))
      | (go_at_call 13; go_loud (rw [← HW1.out]; refine (copy_any HUW.out z1 z2 z3).mono ?_; rintro x w2 ⟨A', c', A2', c2', rfl, hun2, hb2⟩; have HU2 := Lib.hid hun2; have HB2 := Lib.hid hb2; have HV2 := Lib.hid (HVW.out.below hb2); clear hun2 hb2; unfold unV))
      | (go_at_call 35; go_loud (refine ((poisons_ok (U := S) (by have h := ck_any HU2.out HV2.out HY1.out HY2.out; rw [HE.out] at h; exact h) (fun W hW => poisoned_any (HU2.out.below hW) HG.out (HV2.out.below hW)))).mono ?_; rintro x w3 ⟨g1, R1, C1, rfl, bR1, hg1, lR1, lC1, hcl1, hb3⟩; have hb23 := HB2.out.trans (hb3.mono HB2.out.size); have hbk := HBL.out.below hb23; have q0 : w3.cell? ⟨w1.heap.size, 0, none⟩ = some (.slice A S.sizes.length c) := (hbk.cell 0).trans rfl; have q1 : w3.cell? ⟨w1.heap.size, 1, none⟩ = some (.int .i64 S.params) := (hbk.cell 1).trans rfl; have q2 : w3.cell? ⟨w1.heap.size, 2, none⟩ = some (.int .i64 S.regs) := (hbk.cell 2).trans rfl; have q3 : w3.cell? ⟨w1.heap.size, 3, none⟩ = some (.int .i64 S.code) := (hbk.cell 3).trans rfl; have q4 : w3.cell? ⟨w1.heap.size, 4, none⟩ = some (.int .i64 S.spill) := (hbk.cell 4).trans rfl; have q5 : w3.cell? ⟨w1.heap.size, 5, none⟩ = some (.slice A2 S.blocks.length c2) := (hbk.cell 5).trans rfl; have HB3 := Lib.hid hb23; have HR1 := Lib.hid (And.intro bR1 (And.intro lR1 (And.intro lC1 hcl1))); have HV3 := Lib.hid (HVW.out.below hb23); have HU3 := Lib.hid (HUW.out.below hb23); clear hb3 hb23 hbk bR1 hg1 lR1 lC1 hcl1))
      | (go_at_call 36; go_loud (refine (rcells_any HU3.out HG.out (fun W hW => rpoisons_any (HU3.out.below hW) HG.out)).mono ?_; rintro x w4 ⟨g2, C2, R2, rfl, bC2, hg2, lR2, lC2, hcl2, hb4⟩; have hb14 := HB3.out.trans (hb4.mono HB3.out.size); have hbk := HBL.out.below hb14; have r0 : w4.cell? ⟨w1.heap.size, 0, none⟩ = some (.slice A S.sizes.length c) := (hbk.cell 0).trans rfl; have r1 : w4.cell? ⟨w1.heap.size, 1, none⟩ = some (.int .i64 S.params) := (hbk.cell 1).trans rfl; have r2 : w4.cell? ⟨w1.heap.size, 2, none⟩ = some (.int .i64 S.regs) := (hbk.cell 2).trans rfl; have r3 : w4.cell? ⟨w1.heap.size, 3, none⟩ = some (.int .i64 S.code) := (hbk.cell 3).trans rfl; have r4 : w4.cell? ⟨w1.heap.size, 4, none⟩ = some (.int .i64 S.spill) := (hbk.cell 4).trans rfl; have r5 : w4.cell? ⟨w1.heap.size, 5, none⟩ = some (.slice A2 S.blocks.length c2) := (hbk.cell 5).trans rfl; have HR1' := Lib.hid (HR1.out.1.below hb4); have HR2 := Lib.hid (And.intro bC2 (And.intro lR2 (And.intro lC2 hcl2))); have HV4 := Lib.hid (HV3.out.below hb4); have HU4 := Lib.hid (HU3.out.below hb4); have HB4 := Lib.hid hb14; have HW4 := Lib.hid (HBW.out.trans (hb14.mono HBW.out.size)); have HBL4 := Lib.hid hbk; clear hb4 hb14 hbk bC2 hg2 lR2 lC2 hcl2 q0 q1 q2 q3 q4 q5)))
    have how : ∀ w', Fr (fun _ => False) w4 w' → Calls Tryd.prog 20 #[.agg #[.slice A S.sizes.length c, .int .i64 S.params, .int .i64 S.regs, .int .i64 S.code, .int .i64 S.spill, .slice A2 S.blocks.length c2], .slice Aa args.length ca] w' fun x w'' => ∃ A3 c3, x = .returned (.slice A3 l.length c3) ∧ Row (fun g => g < w''.heap.size) w'' (.slice A3 l.length c3) l.length 1 (numV l) ∧ Fr (fun _ => False) w4 w'' := fun w' hf => by
      refine (HOWN.out w' A c A2 c2 (HW4.out.trans (hf.below (fun _ h => h.elim) HW4.out.size))).mono ?_
      rintro x w'' ⟨v, rfl, hv, hb⟩
      obtain ⟨A3, c3, rfl⟩ := own_shape hv
      exact ⟨A3, c3, rfl, (Row.of_own (N := fun g => True) hv (fun _ _ => trivial) (by decide)).mono (fun _ _ h => h), hf.then_ (Fr.of_below hb)⟩
    have hst : ∀ (w' wa : World) (A3 : Option Addr) (c3 : Nat), Row (fun g => g < wa.heap.size) wa (.slice A3 l.length c3) l.length 1 (numV l) → Fr (fun _ => False) wa w' → Fr (fun _ => False) w4 w' → Calls Tryd.prog 21 #[.agg #[.slice A S.sizes.length c, .int .i64 S.params, .int .i64 S.regs, .int .i64 S.code, .int .i64 S.spill, .slice A2 S.blocks.length c2], .slice A3 l.length c3] w' fun x w'' => ∃ F' p, x = .returned (.tuple #[.pointer (some ⟨p, 0, none⟩), .int .i64 0]) ∧ EngX layP F' w4 (fun _ => False) w'' p S (St.init S l) ∧ Fr (fun _ => False) w4 w'' := fun w' wa A3 c3 hr hfa hf => by
      have hb4 : Below w4.heap.size w4 w' := hf.below (fun _ h => h.elim) (Nat.le_refl _)
      have hu' := HU4.out.below hb4
      have hck := ck_any hu' (HV4.out.below hb4) HY1.out HY2.out
      rw [HE.out] at hck
      refine (start_ok hck HG.out hu' l A3 c3 (hr.fr hfa fun _ _ => not_false) HN.out).mono ?_
      rintro x w5 ⟨F', p, rfl, E⟩
      have E2 := E.lift hb4
      refine ⟨F', p, rfl, E2, ?_⟩
      obtain ⟨L, Q⟩ := E2
      exact Q.f
    have HOW := Lib.hid how
    have HST := Lib.hid hst
    clear how hst
    go_cut [9, 10] (fun v9 v10 wc => ∃ F' p, v9 = .pointer (some ⟨p, 0, none⟩) ∧ v10 = .int .i64 0 ∧ EngX layP F' w4 (fun _ => False) wc p S (St.init S l))
    case first =>
      go_region_held3 (fun w' => w'.cell? ⟨w1.heap.size, 0, none⟩ = some (.slice A S.sizes.length c) ∧ w'.cell? ⟨w1.heap.size, 1, none⟩ = some (.int .i64 S.params) ∧ w'.cell? ⟨w1.heap.size, 2, none⟩ = some (.int .i64 S.regs) ∧ w'.cell? ⟨w1.heap.size, 3, none⟩ = some (.int .i64 S.code) ∧ w'.cell? ⟨w1.heap.size, 4, none⟩ = some (.int .i64 S.spill) ∧ w'.cell? ⟨w1.heap.size, 5, none⟩ = some (.slice A2 S.blocks.length c2)) (first | exact ⟨r0, r1, r2, r3, r4, r5⟩ | exact ⟨k0, k1, k2, k3, k4, k5⟩ | (go_keep; done))
        (first
          | (go_at_call 20; go_loud ((with_reducible refine (HOW.out _ ?f).mono ?_); (case f => first | exact (Fr.refl _ _).drewN _ | exact (Fr.refl _ _).drew | exact Fr.refl _ _); rintro x w5 ⟨A3, c3, rfl, hr4, hf2⟩; have k0 : w5.cell? ⟨w1.heap.size, 0, none⟩ = some (.slice A S.sizes.length c) := hf2.cell r0 not_false; have k1 : w5.cell? ⟨w1.heap.size, 1, none⟩ = some (.int .i64 S.params) := hf2.cell r1 not_false; have k2 : w5.cell? ⟨w1.heap.size, 2, none⟩ = some (.int .i64 S.regs) := hf2.cell r2 not_false; have k3 : w5.cell? ⟨w1.heap.size, 3, none⟩ = some (.int .i64 S.code) := hf2.cell r3 not_false; have k4 : w5.cell? ⟨w1.heap.size, 4, none⟩ = some (.int .i64 S.spill) := hf2.cell r4 not_false; have k5 : w5.cell? ⟨w1.heap.size, 5, none⟩ = some (.slice A2 S.blocks.length c2) := hf2.cell r5 not_false; have HF := Lib.hid hf2; have HR := Lib.hid hr4; clear hr4 hf2))
          | (go_at_call 21; go_loud ((with_reducible refine (HST.out _ _ _ _ HR.out ?fa ?f).mono ?_); (case fa => first | exact (Fr.refl _ _).drewN _ | exact (Fr.refl _ _).drew | exact Fr.refl _ _); (case f => first | exact HF.out.drewN _ | exact HF.out.drew | exact HF.out); rintro x w6 ⟨F', p, rfl, hE6, hf6⟩; have k0 : w6.cell? ⟨w1.heap.size, 0, none⟩ = some (.slice A S.sizes.length c) := hf6.cell r0 not_false; have k1 : w6.cell? ⟨w1.heap.size, 1, none⟩ = some (.int .i64 S.params) := hf6.cell r1 not_false; have k2 : w6.cell? ⟨w1.heap.size, 2, none⟩ = some (.int .i64 S.regs) := hf6.cell r2 not_false; have k3 : w6.cell? ⟨w1.heap.size, 3, none⟩ = some (.int .i64 S.code) := hf6.cell r3 not_false; have k4 : w6.cell? ⟨w1.heap.size, 4, none⟩ = some (.int .i64 S.spill) := hf6.cell r4 not_false; have k5 : w6.cell? ⟨w1.heap.size, 5, none⟩ = some (.slice A2 S.blocks.length c2) := hf6.cell r5 not_false; have HE6 := Lib.hid hE6; clear hE6 hf6)))
      all_goals
        go_wp2
        go_meet
        first | exact ⟨F', p, rfl, rfl, HE6.out⟩ | exact ⟨F', p, rfl, rfl, HE6.out.drewN _⟩
    case rest =>
      obtain ⟨F', p, rfl, rfl, hE0⟩ := hcut
      have HE0 := Lib.hid hE0
      obtain ⟨nR, hnR⟩ : ∃ n, n = R1.length := ⟨_, rfl⟩
      obtain ⟨nC, hnC⟩ : ∃ n, n = C2.length := ⟨_, rfl⟩
      have HL : Hid ((nR : Int) = S.regs ∧ (nC : Int) = S.spill ∧ nR ≤ 4096 ∧ nC ≤ 4096) := Lib.hid (by
        have := HR1.out.2.1
        have := HR2.out.2.2.1
        have := HG.out.r2
        have := HG.out.sp2
        omega)
      have HNR := Lib.hid hnR
      have HNC := Lib.hid hnC
      rw [← hnR, ← hnC]
      clear hnR hnC
      clear hE0 r0 r1 r2 r3 r4 r5
      go_wp2
      go_loopw [11] (fun v11 wr => ∃ i : Nat, i ≤ 300 ∧ v11 = .int .i64 i ∧ EngX layP F' w4 (fun _ => False) wr p S (St.run S i (St.init S l))) (fun v11 _ => 300 - (intOf v11).toNat)
      case atStart => exact ⟨0, by decide, rfl, HE0.out⟩
      case round =>
        obtain ⟨i, hi, rfl, E⟩ := hrel
        rename World => wr
        have hbr : Below w4.heap.size w4 wr := by
          obtain ⟨L, Q⟩ := E
          exact Q.f.below (fun _ h => h.elim) (Nat.le_refl _)
        have hwr : Below w.heap.size w wr := HW4.out.trans (hbr.mono HW4.out.size)
        have HWR := Lib.hid hwr
        have HVR := Lib.hid (HV.out.below hwr)
        have HBR0 := Lib.hid hbr
        have hbl := HBL4.out.below hbr
        have r0 : wr.cell? ⟨w1.heap.size, 0, none⟩ = some (.slice A S.sizes.length c) := (hbl.cell 0).trans rfl
        have r1 : wr.cell? ⟨w1.heap.size, 1, none⟩ = some (.int .i64 S.params) := (hbl.cell 1).trans rfl
        have r2 : wr.cell? ⟨w1.heap.size, 2, none⟩ = some (.int .i64 S.regs) := (hbl.cell 2).trans rfl
        have r3 : wr.cell? ⟨w1.heap.size, 3, none⟩ = some (.int .i64 S.code) := (hbl.cell 3).trans rfl
        have r4 : wr.cell? ⟨w1.heap.size, 4, none⟩ = some (.int .i64 S.spill) := (hbl.cell 4).trans rfl
        have r5 : wr.cell? ⟨w1.heap.size, 5, none⟩ = some (.slice A2 S.blocks.length c2) := (hbl.cell 5).trans rfl
        by_cases hlt : i < 300
        · have hltI : (i : Int) < 300 := by omega
          obtain ⟨s, hs⟩ : ∃ s, s = St.run S i (St.init S l) := ⟨_, rfl⟩
          have gI : StGood S (St.init S l) := StGood.init HG.out l (by obtain ⟨_, _, p2⟩ := HG.out.par; have := HN.out; omega)
          have g1 : StGood S s := by rw [hs]; exact StGood.run HG.out i _ gI (by show (0 : Int) + _ ≤ _; omega)
          have g2 : StGood S (St.run S 1 s) := by rw [hs, ← St.run_add]; exact StGood.run HG.out (i + 1) _ gI (by show (0 : Int) + _ ≤ _; omega)
          have hst := (St.run_steps S i (St.init S l)).2
          have hst0 : (St.init S l).steps = 0 := rfl
          rw [← hs] at E hst
          obtain ⟨b, hb⟩ : ∃ b, b = decide (s.kind = 0) := ⟨_, rfl⟩
          have KW := Lib.hid (where_any HG.out g1 E b hb)
          cases b
          · clear g1 g2 gI hst hst0 hs hb E hbr hwr hbl
            go_wp2_with (first
              | (go_at_call 33; go_loud ((with_reducible refine KW.out.mono ?_); rintro x w6 ⟨rfl, hb6⟩; have HVR := Lib.hid (HVR.out.below hb6); have HWR := Lib.hid (HWR.out.trans (hb6.mono HWR.out.size)); clear hb6))
              | (go_at_call 16; refine (alive_true HVR.out).mono ?_; rintro x wE ⟨rfl, hb⟩; have HBE := Lib.hid hb; clear hb))
            go_ret
            exact ⟨rfl, HWR.out.trans (HBE.out.mono HWR.out.size)⟩
          · have hk0 : s.kind = 0 := of_decide_eq_true hb.symm
            simp only [if_true] at KW
            have hsnd : ∀ R C : List Bool, Closed S R C → Snd R C s := fun R C h => by
              rw [hs]; exact Snd.run HG.out h i _ gI (by show (0 : Int) + _ ≤ _; omega) (Snd.init l R C)
            have hmay : (s.step S).kind = 2 → ∀ R C : List Bool, (R.length : Int) = S.regs → (C.length : Int) = S.spill → Closed S R C → (s.pc = (S.blocks.getD s.bl dBl).ops.length → edMay R (S.blocks.getD s.bl dBl).ed) ∧ (s.pc ≠ (S.blocks.getD s.bl dBl).ops.length → opMay R ((S.blocks.getD s.bl dBl).ops.getD s.pc dOp)) := fun hk R C _ _ h => step_may HG.out g1 (hsnd R C h) hk0 hk
            have hsn1 : Snd R1 C1 (St.run S 1 s) := by rw [run_one hk0]; exact (hsnd R1 C1 HR1.out.2.2.2).step HG.out g1 HR1.out.2.2.2
            have hsn2 : Snd R2 C2 (St.run S 1 s) := by rw [run_one hk0]; exact (hsnd R2 C2 HR2.out.2.2.2).step HG.out g1 HR2.out.2.2.2
            have hkr := St.run_kind S (i + 1) _ (init_kind S l)
            have hadd : St.run S (i + 1) (St.init S l) = St.run S 1 s := by rw [hs, ← St.run_add]
            rw [hadd] at hkr
            rw [← run_one hk0] at hmay
            have hbl0 := g1.bl
            have hpc0 := g1.pc
            have hrun := fun (W : World) (hb : Below wr.heap.size wr W) => erun_any g1 HG.out (E.below hb) HV4.out not_false 1 (by decide) (by decide) (by omega)
            obtain ⟨s2, hs2⟩ : ∃ s2, s2 = St.run S 1 s := ⟨_, rfl⟩
            rw [show (1 : Int).toNat = 1 from rfl, ← hs2] at hrun
            rw [← hs2] at hmay hsn1 hsn2 hkr hadd g2
            obtain ⟨kd, hkd⟩ : ∃ x, x = kindO s2.kind := ⟨_, rfl⟩
            obtain ⟨en, hen⟩ : ∃ x, x = decide (s2.kind ≠ 0) := ⟨_, rfl⟩
            obtain ⟨vl, hvl⟩ : ∃ x, x = s2.val := ⟨_, rfl⟩
            obtain ⟨np, hnp⟩ : ∃ x, x = s2.prints.length := ⟨_, rfl⟩
            have hk2 : kd = 2 → s2.kind = 2 := fun e => by
              rw [e] at hkd
              rcases hkr with h | h | h <;> rw [h] at hkd
              · exact absurd hkd (by decide)
              · exact absurd hkd (by decide)
              · exact h
            rw [← hkd, ← hvl, ← hen, ← hnp] at hrun
            obtain ⟨sb, hsb⟩ : ∃ x, x = s.bl := ⟨_, rfl⟩
            obtain ⟨sp, hsp⟩ : ∃ x, x = s.pc := ⟨_, rfl⟩
            rw [← hsb, ← hsp] at hmay
            rw [← hsb] at hbl0 hpc0
            rw [← hsp] at hpc0
            rw [← hsb, ← hsp] at KW
            have HRUN := Lib.hid hrun
            have HMAY := Lib.hid (fun e => hmay (hk2 e))
            have HSN1 := Lib.hid hsn1
            have HSN2 := Lib.hid hsn2
            have HS2 := Lib.hid g2
            have HADD := Lib.hid hadd
            have HPB := Lib.hid (And.intro hbl0 hpc0)
            clear hs2 hnp hkd hvl hen hrun hmay hsn1 hsn2 hkr hadd g1 g2 gI hst hst0 hs hb E hbr hwr hbl hk0 hk2 hsnd hbl0 hpc0 hsb hsp
            go_upto_region 17 with (first
              | (go_at_call 33; go_loud ((with_reducible refine KW.out.mono ?_); rintro x w6 ⟨rfl, hb6⟩; have HB6 := Lib.hid hb6; clear hb6))
              | (go_at_call 22; go_loud ((with_reducible refine (HRUN.out _ HB6.out).mono ?_); rintro x w7 ⟨v, rfl, hv, hev⟩; obtain ⟨A5, c5, rfl⟩ := own_shape hv; have HE7 : Hid (EngX layP F' w4 (fun _ => False) w7 p S s2) := Lib.hid (by obtain ⟨L, Q, _⟩ := hev; exact ⟨L, Q⟩); clear hv hev)))
            obtain ⟨W7, hW7⟩ : ∃ W7, W7 = w7.alloc (.cells #[.slice A5 np c5, .int .i64 kd, .int .i64 vl] 30) := ⟨_, rfl⟩
            try rw [← hW7]
            have hE7 : EngX layP F' w4 (fun _ => False) W7 p S s2 := hW7 ▸ HE7.out.alloc _
            have hb7 : Below w4.heap.size w4 W7 := (by obtain ⟨L, Q⟩ := hE7; exact Q.f.below (fun _ h => h.elim) (Nat.le_refl _))
            have hob : Blk W7 w7.heap.size 30 #[.slice A5 np c5, .int .i64 kd, .int .i64 vl] := hW7 ▸ blk_new _ rfl _ _
            have u1 : W7.cell? ⟨w7.heap.size, 1, none⟩ = some (.int .i64 kd) := (hob.cell 1).trans rfl
            have hbl7 := HBL4.out.below hb7
            have q0 : W7.cell? ⟨w1.heap.size, 0, none⟩ = some (.slice A S.sizes.length c) := (hbl7.cell 0).trans rfl
            have q1 : W7.cell? ⟨w1.heap.size, 1, none⟩ = some (.int .i64 S.params) := (hbl7.cell 1).trans rfl
            have q2 : W7.cell? ⟨w1.heap.size, 2, none⟩ = some (.int .i64 S.regs) := (hbl7.cell 2).trans rfl
            have q3 : W7.cell? ⟨w1.heap.size, 3, none⟩ = some (.int .i64 S.code) := (hbl7.cell 3).trans rfl
            have q4 : W7.cell? ⟨w1.heap.size, 4, none⟩ = some (.int .i64 S.spill) := (hbl7.cell 4).trans rfl
            have q5 : W7.cell? ⟨w1.heap.size, 5, none⟩ = some (.slice A2 S.blocks.length c2) := (hbl7.cell 5).trans rfl
            have KM := Lib.hid (fun hk : kd = 2 => maytrap_any (U := S) (w := W7) (by have h := ck_any (HU4.out.below hb7) (HV4.out.below hb7) HY1.out HY2.out; rw [HE.out] at h; exact h) (HU4.out.below hb7) HG.out (HV4.out.below hb7) sb sp HPB.out.1 HPB.out.2 (HMAY.out hk))
            unfold unV at KM
            have HE7' := Lib.hid hE7
            have HBL7 := Lib.hid hbl7
            have HB7 := Lib.hid hb7
            have HL2 : Hid (s2.regs.length = nR ∧ s2.kept.length = nC) := Lib.hid (by
              have h1 := HS2.out.regs
              have h2 := HS2.out.kept
              have h3 := HL.out.1
              have h4 := HL.out.2.1
              omega)
            clear hE7 hb7 hob hbl7 hW7
            go_upto_if 71 with fail
            go_cut [18, 19] from 49 to 154 (fun v18 v19 wy => Below W7.heap.size W7 wy)
            case first =>
              by_cases hkd : kd = 2
              · subst hkd
                have KM := Lib.hid (KM.out rfl)
                go_wp2_with (go_at_call 37; go_loud ((with_reducible refine KM.out.mono ?_); rintro x wm ⟨rfl, hbm⟩; have HBM := Lib.hid hbm; clear hbm))
                go_meet
                exact HBM.out
              · have hkb : (kd == 2) = false := by simpa using hkd
                go_wp2
                go_meet
                exact Below.refl _ _
            case rest =>
              obtain ⟨wx, hwx⟩ : ∃ x : World, x = wc := ⟨_, rfl⟩
              rw [← hwx] at hcut ⊢
              clear hwx
              have HEX := Lib.hid (HE7'.out.below hcut)
              have HBLX := Lib.hid (HBL7.out.below hcut)
              have HA1 := Lib.hid ((HR1'.out.below HB7.out).below hcut)
              have HA2 := Lib.hid ((HR2.out.1.below HB7.out).below hcut)
              have HWX := Lib.hid (Below.refl wx.heap.size wx)
              clear hcut q0 q1 q2 q3 q4 q5 u1 KM
              have hblx := HBLX.out
              have q0 : wx.cell? ⟨w1.heap.size, 0, none⟩ = some (.slice A S.sizes.length c) := (hblx.cell 0).trans rfl
              have q1 : wx.cell? ⟨w1.heap.size, 1, none⟩ = some (.int .i64 S.params) := (hblx.cell 1).trans rfl
              have q2 : wx.cell? ⟨w1.heap.size, 2, none⟩ = some (.int .i64 S.regs) := (hblx.cell 2).trans rfl
              have q3 : wx.cell? ⟨w1.heap.size, 3, none⟩ = some (.int .i64 S.code) := (hblx.cell 3).trans rfl
              have q4 : wx.cell? ⟨w1.heap.size, 4, none⟩ = some (.int .i64 S.spill) := (hblx.cell 4).trans rfl
              have q5 : wx.cell? ⟨w1.heap.size, 5, none⟩ = some (.slice A2 S.blocks.length c2) := (hblx.cell 5).trans rfl
              clear hblx
              go_step
              go_step
              go_cut [20] from 49 to 154 (fun v20 wy => Below wx.heap.size wx wy)
              case first =>
                go_wp2
                go_loopw [20] (fun v wr => ∃ k : Nat, k ≤ nR ∧ k ≤ 50 ∧ v = .int .i64 k ∧ Below wx.heap.size wx wr) (fun v _ => nR - (intOf v).toNat)
                case atStart => exact ⟨0, Nat.zero_le _, by decide, rfl, HWX.out⟩
                case round =>
                  obtain ⟨k, hk, hk2, rfl, hbr⟩ := hrel
                  rename World => wr
                  have hbl := HBLX.out.below hbr
                  have y0 : wr.cell? ⟨w1.heap.size, 0, none⟩ = some (.slice A S.sizes.length c) := (hbl.cell 0).trans rfl
                  have y1 : wr.cell? ⟨w1.heap.size, 1, none⟩ = some (.int .i64 S.params) := (hbl.cell 1).trans rfl
                  have y2 : wr.cell? ⟨w1.heap.size, 2, none⟩ = some (.int .i64 S.regs) := (hbl.cell 2).trans rfl
                  have y3 : wr.cell? ⟨w1.heap.size, 3, none⟩ = some (.int .i64 S.code) := (hbl.cell 3).trans rfl
                  have y4 : wr.cell? ⟨w1.heap.size, 4, none⟩ = some (.int .i64 S.spill) := (hbl.cell 4).trans rfl
                  have y5 : wr.cell? ⟨w1.heap.size, 5, none⟩ = some (.slice A2 S.blocks.length c2) := (hbl.cell 5).trans rfl
                  have HBR := Lib.hid hbr
                  by_cases hlt : k < nR
                  · have hltI : (k : Int) < S.regs := by have := HL.out.1; have := HL.out.2.1; omega
                    by_cases h50 : k < 50
                    · have h50I : (k : Int) < 50 := by omega
                      have KR := Lib.hid (reg_in HG.out HS2.out (HEX.out.below hbr) k (by omega) (by rw [HL2.out.1]; omega))
                      have hcell := boolCell (HA1.out.below hbr) (i := (k : Int)) (by omega) (by have := HNR.out; omega)
                      have hfr := reg_held HS2.out HSN1.out k (by rw [HL2.out.1]; exact hlt)
                      obtain ⟨vn, hvn⟩ : ∃ x, x = (s2.reg (k : Int)).1 := ⟨_, rfl⟩
                      obtain ⟨vb, hvb⟩ : ∃ x, x = (s2.reg (k : Int)).2 := ⟨_, rfl⟩
                      rw [← hvn, ← hvb] at hfr KR
                      rw [Int.toNat_natCast] at hcell
                      by_cases hb0 : vb = 0
                      · subst hb0
                        clear hfr hvn hvb hcell hbr hbl
                        go_wp2_with (go_at_call 30; go_loud ((with_reducible refine KR.out.mono ?_); rintro x wk ⟨rfl, hbk⟩; have hbl2 := HBLX.out.below (HBR.out.trans (hbk.mono HBR.out.size)); have ln : w1.heap.size < wk.heap.size := hbl2.lt; have nn : w1.heap.size ≠ wk.heap.size := Nat.ne_of_lt ln; have nn' := nn.symm; have z0 : wk.cell? ⟨w1.heap.size, 0, none⟩ = some (.slice A S.sizes.length c) := (hbl2.cell 0).trans rfl; have z1 : wk.cell? ⟨w1.heap.size, 1, none⟩ = some (.int .i64 S.params) := (hbl2.cell 1).trans rfl; have z2 : wk.cell? ⟨w1.heap.size, 2, none⟩ = some (.int .i64 S.regs) := (hbl2.cell 2).trans rfl; have z3 : wk.cell? ⟨w1.heap.size, 3, none⟩ = some (.int .i64 S.code) := (hbl2.cell 3).trans rfl; have z4 : wk.cell? ⟨w1.heap.size, 4, none⟩ = some (.int .i64 S.spill) := (hbl2.cell 4).trans rfl; have z5 : wk.cell? ⟨w1.heap.size, 5, none⟩ = some (.slice A2 S.blocks.length c2) := (hbl2.cell 5).trans rfl; have HBK := Lib.hid hbk; clear hbk hbl2 y0 y1 y2 y3 y4 y5))
                        go_roundw
                        case rel => exact ⟨k + 1, by omega, by omega, by go_num, (HBR.out.trans (HBK.out.mono HBR.out.size)).alloc (HBR.out.trans (HBK.out.mono HBR.out.size)).size _⟩
                        case measure => simp [intOf]; omega
                      · obtain ⟨hm, hn0⟩ := hfr hb0
                        rw [hm] at hcell
                        subst hn0
                        have hbb : (vb != 0) = true := by simpa using hb0
                        clear hvn hvb hbr hbl hm
                        go_wp2_with (go_at_call 30; go_loud ((with_reducible refine KR.out.mono ?_); rintro x wk ⟨rfl, hbk⟩; have hbl2 := HBLX.out.below (HBR.out.trans (hbk.mono HBR.out.size)); have ln : w1.heap.size < wk.heap.size := hbl2.lt; have nn : w1.heap.size ≠ wk.heap.size := Nat.ne_of_lt ln; have nn' := nn.symm; have hcell2 := (hbk.cell (World.block_lt_of_cell? _ _ hcell)).trans hcell; have lg := World.block_lt_of_cell? _ _ hcell2; have z0 : wk.cell? ⟨w1.heap.size, 0, none⟩ = some (.slice A S.sizes.length c) := (hbl2.cell 0).trans rfl; have z1 : wk.cell? ⟨w1.heap.size, 1, none⟩ = some (.int .i64 S.params) := (hbl2.cell 1).trans rfl; have z2 : wk.cell? ⟨w1.heap.size, 2, none⟩ = some (.int .i64 S.regs) := (hbl2.cell 2).trans rfl; have z3 : wk.cell? ⟨w1.heap.size, 3, none⟩ = some (.int .i64 S.code) := (hbl2.cell 3).trans rfl; have z4 : wk.cell? ⟨w1.heap.size, 4, none⟩ = some (.int .i64 S.spill) := (hbl2.cell 4).trans rfl; have z5 : wk.cell? ⟨w1.heap.size, 5, none⟩ = some (.slice A2 S.blocks.length c2) := (hbl2.cell 5).trans rfl; have HBK := Lib.hid hbk; clear hbk hbl2 hcell y0 y1 y2 y3 y4 y5))
                        go_roundw
                        case rel => exact ⟨k + 1, by omega, by omega, by go_num, (HBR.out.trans (HBK.out.mono HBR.out.size)).alloc (HBR.out.trans (HBK.out.mono HBR.out.size)).size _⟩
                        case measure => simp [intOf]; omega
                    · obtain rfl : k = 50 := by omega
                      clear hbr hbl
                      go_wp2
                      go_meet
                      exact HBR.out
                  · have hkn : k = nR := by omega
                    have hltI : ¬ ((k : Int) < S.regs) := by have := HL.out.1; have := HL.out.2.1; omega
                    clear hbr hbl
                    go_wp2
                    go_meet
                    exact HBR.out
              case rest =>
                obtain ⟨wy, hwy⟩ : ∃ x : World, x = wc := ⟨_, rfl⟩
                rw [← hwy] at hcut ⊢
                clear hwy
                have HBR := Lib.hid hcut
                have hbly := HBLX.out.below hcut
                clear hcut q0 q1 q2 q3 q4 q5
                have q0 : wy.cell? ⟨w1.heap.size, 0, none⟩ = some (.slice A S.sizes.length c) := (hbly.cell 0).trans rfl
                have q1 : wy.cell? ⟨w1.heap.size, 1, none⟩ = some (.int .i64 S.params) := (hbly.cell 1).trans rfl
                have q2 : wy.cell? ⟨w1.heap.size, 2, none⟩ = some (.int .i64 S.regs) := (hbly.cell 2).trans rfl
                have q3 : wy.cell? ⟨w1.heap.size, 3, none⟩ = some (.int .i64 S.code) := (hbly.cell 3).trans rfl
                have q4 : wy.cell? ⟨w1.heap.size, 4, none⟩ = some (.int .i64 S.spill) := (hbly.cell 4).trans rfl
                have q5 : wy.cell? ⟨w1.heap.size, 5, none⟩ = some (.slice A2 S.blocks.length c2) := (hbly.cell 5).trans rfl
                clear hbly
                go_wp2
                go_loopw [23] (fun v wr => ∃ k : Nat, k ≤ nC ∧ k ≤ 50 ∧ v = .int .i64 k ∧ Below wx.heap.size wx wr) (fun v _ => nC - (intOf v).toNat)
                case atStart => exact ⟨0, Nat.zero_le _, by decide, rfl, HBR.out⟩
                case round =>
                  obtain ⟨k, hk, hk2, rfl, hbr⟩ := hrel
                  rename World => wr
                  have hbl := HBLX.out.below hbr
                  have y0 : wr.cell? ⟨w1.heap.size, 0, none⟩ = some (.slice A S.sizes.length c) := (hbl.cell 0).trans rfl
                  have y1 : wr.cell? ⟨w1.heap.size, 1, none⟩ = some (.int .i64 S.params) := (hbl.cell 1).trans rfl
                  have y2 : wr.cell? ⟨w1.heap.size, 2, none⟩ = some (.int .i64 S.regs) := (hbl.cell 2).trans rfl
                  have y3 : wr.cell? ⟨w1.heap.size, 3, none⟩ = some (.int .i64 S.code) := (hbl.cell 3).trans rfl
                  have y4 : wr.cell? ⟨w1.heap.size, 4, none⟩ = some (.int .i64 S.spill) := (hbl.cell 4).trans rfl
                  have y5 : wr.cell? ⟨w1.heap.size, 5, none⟩ = some (.slice A2 S.blocks.length c2) := (hbl.cell 5).trans rfl
                  have HBR := Lib.hid hbr
                  by_cases hlt : k < nC
                  · have hltI : (k : Int) < S.spill := by have := HL.out.1; have := HL.out.2.1; omega
                    by_cases h50 : k < 50
                    · have h50I : (k : Int) < 50 := by omega
                      have KR := Lib.hid (kept_in HG.out HS2.out (HEX.out.below hbr) k (by omega) (by rw [HL2.out.2]; omega))
                      have hcell := boolCell (HA2.out.below hbr) (i := (k : Int)) (by omega) (by have := HNC.out; omega)
                      have hfr := kept_held HS2.out HSN2.out k (by rw [HL2.out.2]; exact hlt)
                      obtain ⟨vn, hvn⟩ : ∃ x, x = (s2.kept.getD (k : Int).toNat (0, 0)).1 := ⟨_, rfl⟩
                      obtain ⟨vb, hvb⟩ : ∃ x, x = (s2.kept.getD (k : Int).toNat (0, 0)).2 := ⟨_, rfl⟩
                      rw [← hvn, ← hvb] at hfr KR
                      rw [Int.toNat_natCast] at hcell
                      by_cases hb0 : vb = 0
                      · subst hb0
                        clear hfr hvn hvb hcell hbr hbl
                        go_wp2_with (go_at_call 32; go_loud ((with_reducible refine KR.out.mono ?_); rintro x wk ⟨rfl, hbk⟩; have hbl2 := HBLX.out.below (HBR.out.trans (hbk.mono HBR.out.size)); have ln : w1.heap.size < wk.heap.size := hbl2.lt; have nn : w1.heap.size ≠ wk.heap.size := Nat.ne_of_lt ln; have nn' := nn.symm; have z0 : wk.cell? ⟨w1.heap.size, 0, none⟩ = some (.slice A S.sizes.length c) := (hbl2.cell 0).trans rfl; have z1 : wk.cell? ⟨w1.heap.size, 1, none⟩ = some (.int .i64 S.params) := (hbl2.cell 1).trans rfl; have z2 : wk.cell? ⟨w1.heap.size, 2, none⟩ = some (.int .i64 S.regs) := (hbl2.cell 2).trans rfl; have z3 : wk.cell? ⟨w1.heap.size, 3, none⟩ = some (.int .i64 S.code) := (hbl2.cell 3).trans rfl; have z4 : wk.cell? ⟨w1.heap.size, 4, none⟩ = some (.int .i64 S.spill) := (hbl2.cell 4).trans rfl; have z5 : wk.cell? ⟨w1.heap.size, 5, none⟩ = some (.slice A2 S.blocks.length c2) := (hbl2.cell 5).trans rfl; have HBK := Lib.hid hbk; clear hbk hbl2 y0 y1 y2 y3 y4 y5))
                        go_roundw
                        case rel => exact ⟨k + 1, by omega, by omega, by go_num, (HBR.out.trans (HBK.out.mono HBR.out.size)).alloc (HBR.out.trans (HBK.out.mono HBR.out.size)).size _⟩
                        case measure => simp [intOf]; omega
                      · obtain ⟨hm, hn0⟩ := hfr hb0
                        rw [hm] at hcell
                        subst hn0
                        have hbb : (vb != 0) = true := by simpa using hb0
                        clear hvn hvb hbr hbl hm
                        go_wp2_with (go_at_call 32; go_loud ((with_reducible refine KR.out.mono ?_); rintro x wk ⟨rfl, hbk⟩; have hbl2 := HBLX.out.below (HBR.out.trans (hbk.mono HBR.out.size)); have ln : w1.heap.size < wk.heap.size := hbl2.lt; have nn : w1.heap.size ≠ wk.heap.size := Nat.ne_of_lt ln; have nn' := nn.symm; have hcell2 := (hbk.cell (World.block_lt_of_cell? _ _ hcell)).trans hcell; have lg := World.block_lt_of_cell? _ _ hcell2; have z0 : wk.cell? ⟨w1.heap.size, 0, none⟩ = some (.slice A S.sizes.length c) := (hbl2.cell 0).trans rfl; have z1 : wk.cell? ⟨w1.heap.size, 1, none⟩ = some (.int .i64 S.params) := (hbl2.cell 1).trans rfl; have z2 : wk.cell? ⟨w1.heap.size, 2, none⟩ = some (.int .i64 S.regs) := (hbl2.cell 2).trans rfl; have z3 : wk.cell? ⟨w1.heap.size, 3, none⟩ = some (.int .i64 S.code) := (hbl2.cell 3).trans rfl; have z4 : wk.cell? ⟨w1.heap.size, 4, none⟩ = some (.int .i64 S.spill) := (hbl2.cell 4).trans rfl; have z5 : wk.cell? ⟨w1.heap.size, 5, none⟩ = some (.slice A2 S.blocks.length c2) := (hbl2.cell 5).trans rfl; have HBK := Lib.hid hbk; clear hbk hbl2 hcell y0 y1 y2 y3 y4 y5))
                        go_roundw
                        case rel => exact ⟨k + 1, by omega, by omega, by go_num, (HBR.out.trans (HBK.out.mono HBR.out.size)).alloc (HBR.out.trans (HBK.out.mono HBR.out.size)).size _⟩
                        case measure => simp [intOf]; omega
                    · obtain rfl : k = 50 := by omega
                      clear hbr hbl
                      go_wp2
                      go_roundw
                      case rel => exact ⟨i + 1, by omega, by go_num, by rw [HADD.out]; exact HEX.out.below HBR.out⟩
                      case measure => simp [intOf]; omega
                  · have hkn : k = nC := by omega
                    have hltI : ¬ ((k : Int) < S.spill) := by have := HL.out.1; have := HL.out.2.1; omega
                    clear hbr hbl
                    go_wp2
                    go_roundw
                    case rel => exact ⟨i + 1, by omega, by go_num, by rw [HADD.out]; exact HEX.out.below HBR.out⟩
                    case measure => simp [intOf]; omega
        · obtain rfl : i = 300 := by omega
          clear hbr hwr hbl E
          go_wp2_with (go_at_call 16; refine (alive_true HVR.out).mono ?_; rintro x wE ⟨rfl, hb⟩; have HBE := Lib.hid hb; clear hb)
          go_ret
          exact ⟨rfl, HWR.out.trans (HBE.out.mono HWR.out.size)⟩
  · obtain ⟨e, he⟩ : ∃ e, e = unErr S := ⟨_, rfl⟩
    rw [← he] at hE
    have hn : (e != 0) = true := by simpa using hE
    have HEV := Lib.hid he.symm
    have HNE := Lib.hid hE
    clear he hE
    unfold unV unC at *
    go_enter Tryd.func9, Tryd.ntmps9
    go_wp2_with (first
      | (go_at_call 10; go_loud (rw [← HW0.out]; refine HSM.out.mono ?_; rintro x w1 ⟨A, c, A2, c2, rfl, hun, hb⟩; obtain ⟨W1, hW1⟩ : ∃ W1, W1 = w1.alloc (.cells #[.slice A S.sizes.length c, .int .i64 S.params, .int .i64 S.regs, .int .i64 S.code, .int .i64 S.spill, .slice A2 S.blocks.length c2] 25) := ⟨_, rfl⟩; have hb1 : Below w.heap.size w w1 := H0.out.trans (hb.mono H0.out.size); have hbW : Below w.heap.size w W1 := hW1 ▸ hb1.alloc hb1.size _; have hunW : UnIn (fun g => g < w1.heap.size) W1 S A c A2 c2 := hW1 ▸ (hun.mono (fun g hg hlt => hlt) (fun g hg => hg)).below ((Below.refl _ _).alloc (Nat.le_refl _) _); have hbl : Blk W1 w1.heap.size 25 #[.slice A S.sizes.length c, .int .i64 S.params, .int .i64 S.regs, .int .i64 S.code, .int .i64 S.spill, .slice A2 S.blocks.length c2] := hW1 ▸ blk_new _ rfl _ _; have HW1 := Lib.hid hW1; have HUW := Lib.hid hunW; have HBW := Lib.hid hbW; have HBL := Lib.hid hbl; have HVW := Lib.hid (HV.out.below hbW); clear hW1 hun hb hb1 hbW hunW hbl))
      | (go_at_call 13; go_loud (rw [← HW1.out]; refine (copy_any HUW.out z1 z2 z3).mono ?_; rintro x w2 ⟨A', c', A2', c2', rfl, hun2, hb2⟩; have HU2 := Lib.hid hun2; have HB2 := Lib.hid hb2; have HV2 := Lib.hid (HVW.out.below hb2); clear hun2 hb2; unfold unV))
      | (go_at_call 35; go_loud (refine (poisons_bad (U := S) e HNE.out (by have h := ck_any HU2.out HV2.out HY1.out HY2.out; rw [HEV.out] at h; exact h)).mono ?_; rintro x w3 ⟨rfl, hb3⟩; have hb23 := HB2.out.trans (hb3.mono HB2.out.size); have HVR := Lib.hid (HVW.out.below hb23); have HWR := Lib.hid (HBW.out.trans (hb23.mono HBW.out.size)); clear hb3 hb23))
      | (go_at_call 16; refine (alive_true HVR.out).mono ?_; rintro x wE ⟨rfl, hb⟩; have HBE := Lib.hid hb; clear hb))
    go_ret
    exact ⟨rfl, HWR.out.trans (HBE.out.mono HWR.out.size)⟩
end Go.Proofs.YtfkjkdoloamakaaDoor
