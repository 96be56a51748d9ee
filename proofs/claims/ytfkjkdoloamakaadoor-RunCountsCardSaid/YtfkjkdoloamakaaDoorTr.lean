/- RunCounts, walked. -/
import Derived.Test.YtfkjkdoloamakaaDoorTo
import Derived.Test.YtfkjkdoloamakaaDoorTn
import Derived.Test.YtfkjkdoloamakaaDoorTm
import Derived.Test.YtfkjkdoloamakaaDoorKc
import Derived.Test.YtfkjkdoloamakaaDoorMh
namespace Go.Proofs.YtfkjkdoloamakaaDoor
open Go.RowKit
set_option linter.unusedVariables false
set_option linter.unusedSimpArgs false
variable {w : World} {F F2 F3 : Nat → Prop} {U : UnS} {Av Ab : Option Addr} {cv cb : Nat}

theorem errOf_ok2 {e : Int} {U : UnS} {n : Nat} {steps : Int} (h : errOf e U n steps = 0) : e = 0 ∧ (n : Int) = U.params ∧ 0 ≤ steps ∧ steps ≤ 4194304 := by
  unfold errOf at h
  by_cases h0 : e = 0
  · rw [if_neg (fun x => x h0)] at h
    by_cases h1 : (n : Int) = U.params ∧ 0 ≤ steps ∧ steps ≤ 4194304
    · exact ⟨h0, h1⟩
    · rw [if_neg h1] at h; exact absurd h (by decide)
  · rw [if_pos h0] at h; exact absurd h h0
set_option maxRecDepth 100000 in
set_option maxHeartbeats 8000000 in
theorem law_counts (hu : UnIn F w U Av cv Ab cb) (V : Env w) (hz1 : U.sizes.length ≤ 17592186044416) (hz2 : U.blocks.length * 64 ≤ 140737488355328) (hz3 : ∀ b ∈ U.blocks, b.ops.length * 56 ≤ 140737488355328)
    (args : List Int) (Aa : Option Addr) (ca : Nat) (hA : Row F2 w (.slice Aa args.length ca) args.length 1 (numV args)) (hal : args.length ≤ maxLen) (steps : Int) :
    Calls Tryd.prog 6 #[unV U Av cv Ab cb, .slice Aa args.length ca, .int .i64 steps] w fun x w' => x = .returned (.bool true) ∧ Below w.heap.size w w' := by
  obtain ⟨W0, hW0⟩ : ∃ W0, W0 = w.alloc (.cells (unC U Av cv Ab cb) 25) := ⟨_, rfl⟩
  have hb0 : Below w.heap.size w W0 := by rw [hW0]; exact (Below.refl _ _).alloc (Nat.le_refl _) _
  have hsm := small_any (hu.below hb0) hz1 hz2 hz3
  obtain ⟨S, hS⟩ : ∃ S, S = smallU U := ⟨_, rfl⟩
  have z1 := small_sizes U
  have z2 := small_blocks U
  have z3 := small_ops U
  rw [← hS] at hsm z1 z2 z3
  obtain ⟨y1, y2⟩ := lens_of z1 z2 z3
  obtain ⟨l, hl⟩ : ∃ l, l = args.take 9 := ⟨_, rfl⟩
  have hl9 : l.length ≤ 9 := by rw [hl]; simp; omega
  have hll : l.take 9 = l := List.take_of_length_le hl9
  have HFEW : Hid (∀ (w' : World), Below w.heap.size w w' → Calls Tryd.prog 11 #[.slice Aa args.length ca] w' fun x w'' => ∃ A3 c3, x = .returned (.slice A3 l.length c3) ∧ Row (fun g => g < w''.heap.size) w'' (.slice A3 l.length c3) l.length 1 (numV l) ∧ Below w'.heap.size w' w'') := Lib.hid (fun w' hb => by
    refine (few_any Aa ca args (hA.fr (M := fun _ => False) (Fr.of_below hb) fun _ _ => not_false) hal).mono ?_
    rintro x w'' ⟨v, rfl, hv, hb2⟩
    obtain ⟨A3, c3, rfl⟩ := own_shape hv
    rw [← hl] at hv ⊢
    exact ⟨A3, c3, rfl, (Row.of_own (N := fun _ => True) hv (fun _ _ => trivial) (by decide)).mono (fun _ _ h => h), hb2⟩)
  have HFEW2 : Hid (∀ (w' : World) (A : Option Addr) (c : Nat), Row (fun g => g < W0.heap.size ∨ True) w' (.slice A l.length c) l.length 1 (numV l) → True) := Lib.hid (fun _ _ _ _ => trivial)
  clear HFEW2
  have hfew2 : ∀ (w' : World) (A : Option Addr) (c : Nat) {F' : Nat → Prop}, Row F' w' (.slice A l.length c) l.length 1 (numV l) → Calls Tryd.prog 11 #[.slice A l.length c] w' fun x w'' => ∃ A3 c3, x = .returned (.slice A3 l.length c3) ∧ Row (fun g => g < w''.heap.size) w'' (.slice A3 l.length c3) l.length 1 (numV l) ∧ Below w'.heap.size w' w'' := fun w' A c F' hr => by
    refine (few_any A c l hr (by unfold maxLen; omega)).mono ?_
    rintro x w'' ⟨v, rfl, hv, hb2⟩
    obtain ⟨A3, c3, rfl⟩ := own_shape hv
    rw [hll] at hv ⊢
    exact ⟨A3, c3, rfl, (Row.of_own (N := fun _ => True) hv (fun _ _ => trivial) (by decide)).mono (fun _ _ h => h), hb2⟩
  have HFEW2 := Lib.hid hfew2
  obtain ⟨sn, hsn⟩ : ∃ n, n = if 100000 < steps ∧ steps ≤ 4194304 then 100000 else steps := ⟨_, rfl⟩
  have HSN := Lib.hid hsn
  clear hsn
  obtain ⟨R, hR⟩ : ∃ R, R = errOf (unErr S) S l.length sn := ⟨_, rfl⟩
  have hREF : ∀ (w' : World) (A : Option Addr) (c : Nat) (A2 : Option Addr) (c2 : Nat) (A3 : Option Addr) (c3 : Nat) {F' : Nat → Prop}, UnIn F' w' S A c A2 c2 → Calls Tryd.prog 14 #[unV S A c A2 c2, .slice A3 l.length c3, .int .i64 sn] w' fun x w'' => x = .returned (.int .i64 R) ∧ Below w'.heap.size w' w'' := fun w' A c A2 c2 A3 c3 F' hu => by
    rw [hR]
    exact refused_any hu y2.1 y2.2 y1 A3 l.length c3 sn
  have HREF := Lib.hid hREF
  have HW0 := Lib.hid hW0
  have H0 := Lib.hid hb0
  have HSM := Lib.hid hsm
  have HV := Lib.hid V
  have HY1 := Lib.hid y1
  have HY2 := Lib.hid y2
  clear hu V hS hsm hb0 hW0 hA y1 y2 hl hal hll hfew2 hREF
  have hCOPY : ∀ (w' : World) (A : Option Addr) (c : Nat) (A2 : Option Addr) (c2 : Nat) {F' : Nat → Prop}, UnIn F' w' S A c A2 c2 → Calls Tryd.prog 13 #[unV S A c A2 c2] w' fun x w'' => ∃ A' c' A2' c2', x = .returned (unV S A' c' A2' c2') ∧ UnIn (fun g => w'.heap.size ≤ g ∧ g < w''.heap.size) w'' S A' c' A2' c2' ∧ Below w'.heap.size w' w'' := fun w' A c A2 c2 F' hu => copy_any hu z1 z2 z3
  have HCOPY := Lib.hid hCOPY
  clear hCOPY
  by_cases hR0 : R = 0
  · obtain ⟨hE, hn1, hs0, hs1⟩ := errOf_ok2 (hR.symm.trans hR0)
    subst hR0
    have hf := un_zero hE
    have G := fine_good hf
    have hp8 := G.par
    have hlr : (l.length : Int) ≤ S.regs := by omega
    have hl8 : l.length ≤ 8 := by omega
    have S0 := StGood.init G l hlr
    have hst0 : (St.init S l).steps = 0 := rfl
    have hSF := StGood.run G sn.toNat _ S0 (by rw [hst0]; omega)
    have hN := St.run_near S G sn.toNat (St.init S l) S0 (by rw [hst0]; omega)
    obtain ⟨sF, hsF⟩ : ∃ x, x = St.run S sn.toNat (St.init S l) := ⟨_, rfl⟩
    obtain ⟨sR, hsR⟩ : ∃ x, x = St.runR S sn.toNat (St.init S l) := ⟨_, rfl⟩
    rw [← hsF, ← hsR] at hN
    rw [← hsF] at hSF
    have e1 : sR.seen = sF.seen := by rw [hN.e]
    have e2 : sR.ways = sF.ways := by rw [hN.e]
    obtain ⟨se, hse⟩ : ∃ x, x = sF.seen := ⟨_, rfl⟩
    obtain ⟨wy, hwy⟩ : ∃ x, x = sF.ways := ⟨_, rfl⟩
    rw [← hse] at e1
    rw [← hwy] at e2
    have hsel : se.length ≤ 2000 := by rw [hse, hSF.seen]; exact G.mb
    have hwyl : wy.length ≤ 20000 := by rw [hwy]; exact hSF.ways
    have hPROF : ∀ (w' : World) (A : Option Addr) (c : Nat) (A2 : Option Addr) (c2 : Nat) (A4 : Option Addr) (c4 : Nat), UnIn (fun g => g < w'.heap.size) w' S A c A2 c2 → Env w' → Row (fun g => g < w'.heap.size) w' (.slice A4 l.length c4) l.length 1 (numV l) → Calls Tryd.prog 24 #[unV S A c A2 c2, .slice A4 l.length c4, .int .i64 sn] w' fun x w'' => ∃ gp, x = .returned (.tuple #[.slice (some ⟨gp, 0, none⟩) se.length se.length, .int .i64 0]) ∧ Blk w'' gp 68 (cntC se).toArray ∧ Below w'.heap.size w' w'' := fun w' A c A2 c2 A4 c4 hu hv hr => by
      refine (prof_ok (ck_fine hf hu hv) G hv hu l A4 c4 hr hn1 sn hs0 hs1).mono ?_
      rintro x w'' ⟨g, n, hn, rfl, hb, hbel⟩
      rw [← hsF, ← hse] at hn hb
      subst hn
      exact ⟨g, rfl, hb, hbel⟩
    have hWAY : ∀ (w' : World) (A : Option Addr) (c : Nat) (A2 : Option Addr) (c2 : Nat) (A4 : Option Addr) (c4 : Nat), UnIn (fun g => g < w'.heap.size) w' S A c A2 c2 → Env w' → Row (fun g => g < w'.heap.size) w' (.slice A4 l.length c4) l.length 1 (numV l) → Calls Tryd.prog 25 #[unV S A c A2 c2, .slice A4 l.length c4, .int .i64 sn] w' fun x w'' => ∃ A7 c7, x = .returned (.tuple #[.slice A7 wy.length c7, .int .i64 0]) ∧ Row (fun _ => True) w'' (.slice A7 wy.length c7) wy.length 1 (numV wy) ∧ Below w'.heap.size w' w'' := fun w' A c A2 c2 A4 c4 hu hv hr => by
      refine (way_ok (ck_fine hf hu hv) G hv hu l A4 c4 hr hn1 sn hs0 hs1).mono ?_
      rintro x w'' ⟨v, rfl, ho, hbel⟩
      rw [← hsF, ← hwy] at ho
      obtain ⟨A7, c7, rfl⟩ := own_shape ho
      exact ⟨A7, c7, rfl, Row.of_own (N := fun _ => True) ho (fun _ _ => trivial) (by decide), hbel⟩
    have hNEW : ∀ (w' : World) (A : Option Addr) (c : Nat) (A2 : Option Addr) (c2 : Nat) (A4 : Option Addr) (c4 : Nat), UnIn (fun g => g < w'.heap.size) w' S A c A2 c2 → Row (fun g => g < w'.heap.size) w' (.slice A4 l.length c4) l.length 1 (numV l) → Calls Tryd.prog 26 #[unV S A c A2 c2, .slice A4 l.length c4] w' fun x w'' => ∃ p, x = .returned (.pointer (some ⟨p, 0, none⟩)) ∧ EngX layR (fun g => g < w'.heap.size) w' (fun _ => False) w'' p S (St.init S l) := fun w' A c A2 c2 A4 c4 hu hr => rnew_any hu G l A4 c4 hr hlr hl8
    have hGO : ∀ (F' : Nat → Prop) (W : World) (M : Nat → Prop) (w' : World) (p : Nat), EngX layR F' W M w' p S (St.init S l) → Calls Tryd.prog 27 #[.pointer (some ⟨p, 0, none⟩), .int .i64 sn] w' fun x w'' => x = .returned (.tuple #[]) ∧ EngX layR F' W M w'' p S sR := fun F' W M w' p E => by
      have h := rgo_any G S0 E sn hs0 hs1 (by rw [hst0]; decide)
      rw [← hsR] at h
      exact h
    have HPROF := Lib.hid hPROF
    have HWAY := Lib.hid hWAY
    have HNEW := Lib.hid hNEW
    have HGO := Lib.hid hGO
    have HES := Lib.hid (And.intro e1 e2)
    clear hPROF hWAY hNEW hGO hN hSF S0 G hf hp8 hlr hl8 hst0 hsF hsR e1 e2 hse hwy hE hn1 hs0 hs1 hR
    unfold unV unC at *
    obtain ⟨fb, hfb⟩ : ∃ t, t = decide (100000 < steps ∧ steps ≤ 4194304) := ⟨_, rfl⟩
    have HFB := Lib.hid hfb
    clear hfb
    go_enter Tryd.func6, Tryd.ntmps6
    go_upto_region 2 with (first
          | (go_at_call 10; (rw [← HW0.out]); refine HSM.out.mono ?_; rintro x w1 ⟨A, c, A2, c2, rfl, hun, hb⟩; have hb1 : Below w.heap.size w w1 := H0.out.trans (hb.mono H0.out.size); have HU1 := Lib.hid hun; have HB1 := Lib.hid hb1; clear hun hb hb1)
          | (go_at_call 11; (with_reducible refine (HFEW.out _ HB1.out).mono ?_); rintro x w2 ⟨A3, c3, rfl, hr3, hb2⟩; obtain ⟨W2, hW2⟩ : ∃ W2, W2 = w2.alloc (.cells #[.slice A S.sizes.length c, .int .i64 S.params, .int .i64 S.regs, .int .i64 S.code, .int .i64 S.spill, .slice A2 S.blocks.length c2] 25) := ⟨_, rfl⟩; have hb12 : Below w.heap.size w w2 := HB1.out.trans (hb2.mono HB1.out.size); have hbW : Below w.heap.size w W2 := hW2 ▸ hb12.alloc hb12.size _; have hs2 : Below w2.heap.size w2 W2 := hW2 ▸ (Below.refl _ _).alloc (Nat.le_refl _) _; have huW : UnIn (fun g => g < W2.heap.size) W2 S A c A2 c2 := ((HU1.out.below hb2).below hs2).all; have hbl : Blk W2 w2.heap.size 25 #[.slice A S.sizes.length c, .int .i64 S.params, .int .i64 S.regs, .int .i64 S.code, .int .i64 S.spill, .slice A2 S.blocks.length c2] := hW2 ▸ blk_new w2 rfl _ _; have p0 : W2.cell? ⟨w2.heap.size, 0, none⟩ = some (.slice A S.sizes.length c) := (hbl.cell 0).trans rfl; have p1 : W2.cell? ⟨w2.heap.size, 1, none⟩ = some (.int .i64 S.params) := (hbl.cell 1).trans rfl; have p2 : W2.cell? ⟨w2.heap.size, 2, none⟩ = some (.int .i64 S.regs) := (hbl.cell 2).trans rfl; have p3 : W2.cell? ⟨w2.heap.size, 3, none⟩ = some (.int .i64 S.code) := (hbl.cell 3).trans rfl; have p4 : W2.cell? ⟨w2.heap.size, 4, none⟩ = some (.int .i64 S.spill) := (hbl.cell 4).trans rfl; have p5 : W2.cell? ⟨w2.heap.size, 5, none⟩ = some (.slice A2 S.blocks.length c2) := (hbl.cell 5).trans rfl; have hr3' : Row (fun g => g < W2.heap.size) W2 (.slice A3 l.length c3) l.length 1 (numV l) := (hr3.mono (fun g hg _ => Nat.lt_of_lt_of_le hg hs2.size)).fr (M := fun _ => False) (Fr.of_below hs2) (fun _ _ => not_false); have HW2 := Lib.hid hW2; have HBW := Lib.hid hbW; have HUW := Lib.hid huW; have HBL := Lib.hid hbl; have HR3 := Lib.hid hr3'; clear hr3 hb2 hW2 hb12 hbW hs2 huW hbl hr3'))
    rw [← HW2.out]
    go_cut [26] from 17 to 140 (fun v26 wx => v26 = .bool fb ∧ wx = W2)
    case first => as_aux_lemma =>
      by_cases h1 : 100000 < steps
      · by_cases h2 : steps ≤ 4194304
        · have e : fb = true := by rw [HFB.out]; exact decide_eq_true ⟨h1, h2⟩
          subst e
          go_wp2
          go_meet
          refine ⟨?_, rfl⟩
          first | rfl | exact congrArg Value.bool (decide_eq_true (by omega))
        · have e : fb = false := by rw [HFB.out]; exact decide_eq_false (fun h => h2 h.2)
          subst e
          go_wp2
          go_meet
          refine ⟨?_, rfl⟩
          first | rfl | exact congrArg Value.bool (decide_eq_false (by omega))
      · have e : fb = false := by rw [HFB.out]; exact decide_eq_false (fun h => h1 h.1)
        subst e
        go_wp2
        go_meet
        refine ⟨?_, rfl⟩
        first | rfl | exact congrArg Value.bool (decide_eq_false (by omega))
    case rest =>
    obtain ⟨rfl, hwx⟩ := hcut
    have hwx2 := hwx.symm
    subst hwx2
    go_upto_if 26 with fail
    go_cut [2] from 17 to 140 (fun v2 wx => v2 = .int .i64 sn ∧ wx = W2)
    case first => as_aux_lemma =>
      cases fb
      · have e : sn = steps := by rw [HSN.out, if_neg (of_decide_eq_false HFB.out.symm)]
        subst e
        go_wp2
        go_meet
        exact ⟨rfl, rfl⟩
      · have e : sn = 100000 := by rw [HSN.out, if_pos (of_decide_eq_true HFB.out.symm)]
        subst e
        go_wp2
        go_meet
        exact ⟨rfl, rfl⟩
    case rest =>
    obtain ⟨rfl, hwx⟩ := hcut
    have hwx2 := hwx.symm
    subst hwx2
    go_upto_region 11 with (first
          | (go_at_call 13; (with_reducible refine (HCOPY.out _ _ _ _ _ (HUW.out.below (Below.refl _ W2))).mono ?_); rintro x w3 ⟨B1, d1, B2, d2, rfl, hun, hb⟩; have HU3 := Lib.hid hun; have HB23 := Lib.hid hb; clear hun hb; (try unfold unV))
          | (go_at_call 11; (with_reducible refine (HFEW2.out _ A3 c3 (HR3.out.fr (M := fun _ => False) (Fr.of_below HB23.out) fun _ _ => not_false)).mono ?_); rintro x w4 ⟨A4, c4, rfl, hr, hb⟩; have hb24 : Below W2.heap.size W2 w4 := HB23.out.trans (hb.mono HB23.out.size); have hu4 := (HU3.out.below hb).all; have HR4 := Lib.hid hr; have HB24 := Lib.hid hb24; have HU4 := Lib.hid hu4; clear hr hb hb24 hu4)
          | (go_at_call 24; (with_reducible refine (HPROF.out _ B1 d1 B2 d2 A4 c4 HU4.out (HV.out.below (HBW.out.trans (HB24.out.mono HBW.out.size))) HR4.out).mono ?_); rintro x w5 ⟨gp, rfl, hbp, hb⟩; have hb25 : Below W2.heap.size W2 w5 := HB24.out.trans (hb.mono HB24.out.size); have hbk := HBL.out.below hb25; have r0 : w5.cell? ⟨w2.heap.size, 0, none⟩ = some (.slice A S.sizes.length c) := (hbk.cell 0).trans rfl; have r1 : w5.cell? ⟨w2.heap.size, 1, none⟩ = some (.int .i64 S.params) := (hbk.cell 1).trans rfl; have r2 : w5.cell? ⟨w2.heap.size, 2, none⟩ = some (.int .i64 S.regs) := (hbk.cell 2).trans rfl; have r3 : w5.cell? ⟨w2.heap.size, 3, none⟩ = some (.int .i64 S.code) := (hbk.cell 3).trans rfl; have r4 : w5.cell? ⟨w2.heap.size, 4, none⟩ = some (.int .i64 S.spill) := (hbk.cell 4).trans rfl; have r5 : w5.cell? ⟨w2.heap.size, 5, none⟩ = some (.slice A2 S.blocks.length c2) := (hbk.cell 5).trans rfl; clear hbk; have HBP := Lib.hid hbp; clear hbp; have HB25 := Lib.hid hb25; clear hb hb25)
          | (go_at_call 13; (with_reducible refine (HCOPY.out _ _ _ _ _ (HUW.out.below HB25.out)).mono ?_); rintro x w6 ⟨E1, f1, E2, f2, rfl, hun, hb⟩; have hb56 := hb; have hb26 : Below W2.heap.size W2 w6 := HB25.out.trans (hb.mono HB25.out.size); have HU6 := Lib.hid hun; have HB26 := Lib.hid hb26; have HB56 := Lib.hid hb56; clear hun hb hb26 hb56; (try unfold unV))
          | (go_at_call 11; (with_reducible refine (HFEW2.out _ A3 c3 (HR3.out.fr (M := fun _ => False) (Fr.of_below HB26.out) fun _ _ => not_false)).mono ?_); rintro x w7 ⟨A6, c6, rfl, hr, hb⟩; have hb57 : Below w5.heap.size w5 w7 := HB56.out.trans (hb.mono HB56.out.size); have hb27 : Below W2.heap.size W2 w7 := HB26.out.trans (hb.mono HB26.out.size); have hu7 := (HU6.out.below hb).all; have HR7 := Lib.hid hr; have HB27 := Lib.hid hb27; have HB57 := Lib.hid hb57; have HU7 := Lib.hid hu7; clear hr hb hb27 hb57 hu7)
          | (go_at_call 25; (with_reducible refine (HWAY.out _ E1 f1 E2 f2 A6 c6 HU7.out (HV.out.below (HBW.out.trans (HB27.out.mono HBW.out.size))) HR7.out).mono ?_); rintro x w8 ⟨A7, c7, rfl, hrw, hb⟩; have hb58 : Below w5.heap.size w5 w8 := HB57.out.trans (hb.mono HB57.out.size); have hb28 : Below W2.heap.size W2 w8 := HB27.out.trans (hb.mono HB27.out.size); have hbk := HBL.out.below hb28; have s0 : w8.cell? ⟨w2.heap.size, 0, none⟩ = some (.slice A S.sizes.length c) := (hbk.cell 0).trans rfl; have s1 : w8.cell? ⟨w2.heap.size, 1, none⟩ = some (.int .i64 S.params) := (hbk.cell 1).trans rfl; have s2 : w8.cell? ⟨w2.heap.size, 2, none⟩ = some (.int .i64 S.regs) := (hbk.cell 2).trans rfl; have s3 : w8.cell? ⟨w2.heap.size, 3, none⟩ = some (.int .i64 S.code) := (hbk.cell 3).trans rfl; have s4 : w8.cell? ⟨w2.heap.size, 4, none⟩ = some (.int .i64 S.spill) := (hbk.cell 4).trans rfl; have s5 : w8.cell? ⟨w2.heap.size, 5, none⟩ = some (.slice A2 S.blocks.length c2) := (hbk.cell 5).trans rfl; clear hbk; have HRW := Lib.hid hrw; clear hrw; have HB28 := Lib.hid hb28; have HB58 := Lib.hid hb58; clear hb hb28 hb58)
          | (go_at_call 14; (with_reducible refine (HREF.out _ A c A2 c2 A3 c3 (HUW.out.below HB28.out)).mono ?_); rintro x w9 ⟨rfl, hb⟩; have hb89 := hb; have hb29 : Below W2.heap.size W2 w9 := HB28.out.trans (hb.mono HB28.out.size); have hbk := HBL.out.below hb29; have t0 : w9.cell? ⟨w2.heap.size, 0, none⟩ = some (.slice A S.sizes.length c) := (hbk.cell 0).trans rfl; have t1 : w9.cell? ⟨w2.heap.size, 1, none⟩ = some (.int .i64 S.params) := (hbk.cell 1).trans rfl; have t2 : w9.cell? ⟨w2.heap.size, 2, none⟩ = some (.int .i64 S.regs) := (hbk.cell 2).trans rfl; have t3 : w9.cell? ⟨w2.heap.size, 3, none⟩ = some (.int .i64 S.code) := (hbk.cell 3).trans rfl; have t4 : w9.cell? ⟨w2.heap.size, 4, none⟩ = some (.int .i64 S.spill) := (hbk.cell 4).trans rfl; have t5 : w9.cell? ⟨w2.heap.size, 5, none⟩ = some (.slice A2 S.blocks.length c2) := (hbk.cell 5).trans rfl; clear hbk; have HB29 := Lib.hid hb29; have HB89 := Lib.hid hb89; clear hb hb29 hb89)
          | (go_at_call 26; (with_reducible refine (HNEW.out _ A c A2 c2 A3 c3 (HUW.out.below HB29.out).all ((HR3.out.mono (fun g hg _ => Nat.lt_of_lt_of_le hg HB29.out.size)).fr (M := fun _ => False) (Fr.of_below HB29.out) fun _ _ => not_false)).mono ?_); rintro x w10 ⟨p, rfl, E1'⟩; have HE1 := Lib.hid E1'; clear E1')
          | (go_at_call 27; refine (HGO.out _ _ _ _ _ HE1.out).mono ?_; rintro x w11 ⟨rfl, E2'⟩; have HE2 := Lib.hid E2'; clear E2'))
    obtain ⟨L, Q⟩ := HE2.out
    have hb911 : Below w9.heap.size w9 w11 := Q.f.below (fun _ h => h.elim) (Nat.le_refl _)
    have k16 := S16 Q.e
    have k17 := S17 Q.e
    have ksn := Q.e.seen
    obtain ⟨A8, c8, hvw⟩ := own_shape Q.e.ways
    have kwy := Q.e.ways
    rw [hvw] at k17 kwy
    rw [HES.out.1] at k16 ksn
    rw [HES.out.2] at k17 kwy
    have hr8 : Row (fun _ => True) w11 (.slice A8 wy.length c8) wy.length 1 (numV wy) := Row.of_own (N := fun _ => True) kwy (fun _ _ => trivial) (by decide)
    have hb811 : Below w8.heap.size w8 w11 := HB89.out.trans (hb911.mono HB89.out.size)
    have hb511 : Below w5.heap.size w5 w11 := HB58.out.trans (hb811.mono HB58.out.size)
    have hr7 : Row (fun _ => True) w11 (.slice A7 wy.length c7) wy.length 1 (numV wy) := HRW.out.fr (M := fun _ => False) (Fr.of_below hb811) fun _ _ => not_false
    have hsp := HBP.out.fr (Fr.of_below (M := fun _ => False) hb511) not_false
    have lp11 : p < w11.heap.size := Q.e.blk.lt
    have hbw : Below w.heap.size w w11 := (HBW.out.trans (HB29.out.mono HBW.out.size)).trans (hb911.mono (HBW.out.trans (HB29.out.mono HBW.out.size)).size)
    have HR8 := Lib.hid hr8
    have HR7' := Lib.hid hr7
    have HSP := Lib.hid hsp
    have HSN2 := Lib.hid ksn
    have HBWW := Lib.hid hbw
    clear Q hb911 ksn kwy hvw hr8 hb811 hb511 hr7 hsp hbw
    go_cut [103] from 78 to 140 (fun v wx => v = .bool false ∧ wx = w11)
    case first => as_aux_lemma =>
      go_wp2
      go_meet
      exact ⟨rfl, rfl⟩
    case rest =>
    obtain ⟨rfl, hwx⟩ := hcut
    have hwx2 := hwx.symm
    subst hwx2
    go_wp2
    go_loopw [15] (fun v15 wz => ∃ i : Nat, i ≤ se.length ∧ v15 = .int .i64 i ∧ Below w11.heap.size w11 wz) (fun v15 _ => se.length - (intOf v15).toNat)
    case atStart => exact ⟨0, Nat.zero_le _, rfl, Below.refl _ _⟩
    case round =>
      obtain ⟨i, hi, rfl, hbz⟩ := hrel
      rename World => wz
      have lpz : p < wz.heap.size := Nat.lt_of_lt_of_le lp11 hbz.size
      have m16 := (hbz.cell (p := ⟨p, 16, none⟩) lp11).trans k16
      by_cases hlt : i < se.length
      · have hiI : (i : Int) < se.length := by omega
        have hf := Fr.of_below (M := fun _ => False) hbz
        have x1 := HSP.out.fr hf not_false
        have x2 := HSN2.out.fr hf not_false
        have u0 : wz.cell? ⟨gp, i * 3, none⟩ = some (.int .i64 (se[i]).1) := by rw [x1.cell, List.getElem?_toArray, cntC_0 _ _ hlt]
        have u1 : wz.cell? ⟨gp, i * 3 + 1, none⟩ = some (.int .i64 (se[i]).2.1) := by rw [x1.cell, List.getElem?_toArray, cntC_1 _ _ hlt]
        have u2 : wz.cell? ⟨gp, i * 3 + 2, none⟩ = some (.int .i64 (se[i]).2.2) := by rw [x1.cell, List.getElem?_toArray, cntC_2 _ _ hlt]
        have n0 : wz.cell? ⟨L.gs, i * 3, none⟩ = some (.int .i64 (se[i]).1) := by rw [x2.cell, List.getElem?_toArray, cntC_0 _ _ hlt]
        have n1 : wz.cell? ⟨L.gs, i * 3 + 1, none⟩ = some (.int .i64 (se[i]).2.1) := by rw [x2.cell, List.getElem?_toArray, cntC_1 _ _ hlt]
        have n2 : wz.cell? ⟨L.gs, i * 3 + 2, none⟩ = some (.int .i64 (se[i]).2.2) := by rw [x2.cell, List.getElem?_toArray, cntC_2 _ _ hlt]
        obtain ⟨y0, hy0⟩ : ∃ y, y = (se[i]).1 := ⟨_, rfl⟩
        obtain ⟨y1, hy1⟩ : ∃ y, y = (se[i]).2.1 := ⟨_, rfl⟩
        obtain ⟨y2, hy2⟩ : ∃ y, y = (se[i]).2.2 := ⟨_, rfl⟩
        rw [← hy0] at u0 n0
        rw [← hy1] at u1 n1
        rw [← hy2] at u2 n2
        have HBZ := Lib.hid hbz
        clear hy0 hy1 hy2 hf x1 x2 hbz
        go_wp2
        go_quiet (fail)
        go_wp2
        go_roundw
        case rel => exact ⟨i + 1, by omega, by go_num, drewN_below HBZ.out _⟩
        case measure => simp [intOf]; omega
      · obtain rfl : i = se.length := by omega
        have HBZ1 := Lib.hid hbz
        clear hbz
        go_wp2
        go_loopw [16] (fun v16 wy' => ∃ i : Nat, i ≤ wy.length ∧ v16 = .int .i64 i ∧ Below w11.heap.size w11 wy') (fun v16 _ => wy.length - (intOf v16).toNat)
        case atStart => exact ⟨0, Nat.zero_le _, rfl, HBZ1.out⟩
        case round =>
          obtain ⟨i, hi, rfl, hbz⟩ := hrel
          rename World => wv
          have m17 := (hbz.cell (p := ⟨p, 17, none⟩) lp11).trans k17
          by_cases hlt : i < wy.length
          · have hiI : (i : Int) < wy.length := by omega
            have hf := Fr.of_below (M := fun _ => False) hbz
            obtain ⟨g7, o7, rfl, _, _, h7⟩ := rowi_at (HR7'.out.fr hf fun _ _ => not_false) hlt
            obtain ⟨g8, o8, rfl, _, _, h8⟩ := rowi_at (HR8.out.fr hf fun _ _ => not_false) hlt
            obtain ⟨y, hy⟩ : ∃ y, y = wy[i] := ⟨_, rfl⟩
            have u7 : wv.cell? ⟨g7, o7 + i, none⟩ = some (.int .i64 y) := h7 _ (by simp [numV, hlt, hy])
            have u8 : wv.cell? ⟨g8, o8 + i, none⟩ = some (.int .i64 y) := h8 _ (by simp [numV, hlt, hy])
            have HBZ := Lib.hid hbz
            clear hy hf h7 h8 hbz
            go_wp2
            go_quiet (fail)
            go_wp2
            go_roundw
            case rel => exact ⟨i + 1, by omega, by go_num, drewN_below HBZ.out _⟩
            case measure => simp [intOf]; omega
          · obtain rfl : i = wy.length := by omega
            have hbx : Below w.heap.size w wv := HBWW.out.trans (hbz.mono HBWW.out.size)
            have HBX := Lib.hid hbx
            clear hbz hbx
            go_wp2_with (first
          | (go_at_call 16; refine (alive_true (HV.out.below HBX.out)).mono ?_; rintro x w12 ⟨rfl, hb⟩; have HB12 := Lib.hid hb; clear hb))
            go_ret
            exact ⟨rfl, HBX.out.trans (HB12.out.mono HBX.out.size)⟩
  · have hPROF : ∀ (w' : World) (A : Option Addr) (c : Nat) (A2 : Option Addr) (c2 : Nat) (A4 : Option Addr) (c4 : Nat), UnIn (fun g => g < w'.heap.size) w' S A c A2 c2 → Env w' → Row (fun g => g < w'.heap.size) w' (.slice A4 l.length c4) l.length 1 (numV l) → Calls Tryd.prog 24 #[unV S A c A2 c2, .slice A4 l.length c4, .int .i64 sn] w' fun x w'' => x = .returned (.tuple #[.slice none 0 0, .int .i64 R]) ∧ Below w'.heap.size w' w'' := fun w' A c A2 c2 A4 c4 hu hv hr => by
      have h := prof_bad (ck_any hu hv HY1.out HY2.out) l A4 c4 (by omega) sn (by rw [← hR]; exact hR0)
      rw [← hR] at h
      exact h
    have hWAY : ∀ (w' : World) (A : Option Addr) (c : Nat) (A2 : Option Addr) (c2 : Nat) (A4 : Option Addr) (c4 : Nat), UnIn (fun g => g < w'.heap.size) w' S A c A2 c2 → Env w' → Row (fun g => g < w'.heap.size) w' (.slice A4 l.length c4) l.length 1 (numV l) → Calls Tryd.prog 25 #[unV S A c A2 c2, .slice A4 l.length c4, .int .i64 sn] w' fun x w'' => x = .returned (.tuple #[.slice none 0 0, .int .i64 R]) ∧ Below w'.heap.size w' w'' := fun w' A c A2 c2 A4 c4 hu hv hr => by
      have h := way_bad (ck_any hu hv HY1.out HY2.out) l A4 c4 (by omega) sn (by rw [← hR]; exact hR0)
      rw [← hR] at h
      exact h
    have HPROF := Lib.hid hPROF
    have HWAY := Lib.hid hWAY
    have hRb : (R != 0) = true := by simpa using hR0
    clear hPROF hWAY hR hR0
    unfold unV unC at *
    obtain ⟨fb, hfb⟩ : ∃ t, t = decide (100000 < steps ∧ steps ≤ 4194304) := ⟨_, rfl⟩
    have HFB := Lib.hid hfb
    clear hfb
    go_enter Tryd.func6, Tryd.ntmps6
    go_upto_region 2 with (first
          | (go_at_call 10; (rw [← HW0.out]); refine HSM.out.mono ?_; rintro x w1 ⟨A, c, A2, c2, rfl, hun, hb⟩; have hb1 : Below w.heap.size w w1 := H0.out.trans (hb.mono H0.out.size); have HU1 := Lib.hid hun; have HB1 := Lib.hid hb1; clear hun hb hb1)
          | (go_at_call 11; (with_reducible refine (HFEW.out _ HB1.out).mono ?_); rintro x w2 ⟨A3, c3, rfl, hr3, hb2⟩; obtain ⟨W2, hW2⟩ : ∃ W2, W2 = w2.alloc (.cells #[.slice A S.sizes.length c, .int .i64 S.params, .int .i64 S.regs, .int .i64 S.code, .int .i64 S.spill, .slice A2 S.blocks.length c2] 25) := ⟨_, rfl⟩; have hb12 : Below w.heap.size w w2 := HB1.out.trans (hb2.mono HB1.out.size); have hbW : Below w.heap.size w W2 := hW2 ▸ hb12.alloc hb12.size _; have hs2 : Below w2.heap.size w2 W2 := hW2 ▸ (Below.refl _ _).alloc (Nat.le_refl _) _; have huW : UnIn (fun g => g < W2.heap.size) W2 S A c A2 c2 := ((HU1.out.below hb2).below hs2).all; have hbl : Blk W2 w2.heap.size 25 #[.slice A S.sizes.length c, .int .i64 S.params, .int .i64 S.regs, .int .i64 S.code, .int .i64 S.spill, .slice A2 S.blocks.length c2] := hW2 ▸ blk_new w2 rfl _ _; have p0 : W2.cell? ⟨w2.heap.size, 0, none⟩ = some (.slice A S.sizes.length c) := (hbl.cell 0).trans rfl; have p1 : W2.cell? ⟨w2.heap.size, 1, none⟩ = some (.int .i64 S.params) := (hbl.cell 1).trans rfl; have p2 : W2.cell? ⟨w2.heap.size, 2, none⟩ = some (.int .i64 S.regs) := (hbl.cell 2).trans rfl; have p3 : W2.cell? ⟨w2.heap.size, 3, none⟩ = some (.int .i64 S.code) := (hbl.cell 3).trans rfl; have p4 : W2.cell? ⟨w2.heap.size, 4, none⟩ = some (.int .i64 S.spill) := (hbl.cell 4).trans rfl; have p5 : W2.cell? ⟨w2.heap.size, 5, none⟩ = some (.slice A2 S.blocks.length c2) := (hbl.cell 5).trans rfl; have hr3' : Row (fun g => g < W2.heap.size) W2 (.slice A3 l.length c3) l.length 1 (numV l) := (hr3.mono (fun g hg _ => Nat.lt_of_lt_of_le hg hs2.size)).fr (M := fun _ => False) (Fr.of_below hs2) (fun _ _ => not_false); have HW2 := Lib.hid hW2; have HBW := Lib.hid hbW; have HUW := Lib.hid huW; have HBL := Lib.hid hbl; have HR3 := Lib.hid hr3'; clear hr3 hb2 hW2 hb12 hbW hs2 huW hbl hr3'))
    rw [← HW2.out]
    go_cut [26] from 17 to 140 (fun v26 wx => v26 = .bool fb ∧ wx = W2)
    case first => as_aux_lemma =>
      by_cases h1 : 100000 < steps
      · by_cases h2 : steps ≤ 4194304
        · have e : fb = true := by rw [HFB.out]; exact decide_eq_true ⟨h1, h2⟩
          subst e
          go_wp2
          go_meet
          refine ⟨?_, rfl⟩
          first | rfl | exact congrArg Value.bool (decide_eq_true (by omega))
        · have e : fb = false := by rw [HFB.out]; exact decide_eq_false (fun h => h2 h.2)
          subst e
          go_wp2
          go_meet
          refine ⟨?_, rfl⟩
          first | rfl | exact congrArg Value.bool (decide_eq_false (by omega))
      · have e : fb = false := by rw [HFB.out]; exact decide_eq_false (fun h => h1 h.1)
        subst e
        go_wp2
        go_meet
        refine ⟨?_, rfl⟩
        first | rfl | exact congrArg Value.bool (decide_eq_false (by omega))
    case rest =>
    obtain ⟨rfl, hwx⟩ := hcut
    have hwx2 := hwx.symm
    subst hwx2
    go_upto_if 26 with fail
    go_cut [2] from 17 to 140 (fun v2 wx => v2 = .int .i64 sn ∧ wx = W2)
    case first => as_aux_lemma =>
      cases fb
      · have e : sn = steps := by rw [HSN.out, if_neg (of_decide_eq_false HFB.out.symm)]
        subst e
        go_wp2
        go_meet
        exact ⟨rfl, rfl⟩
      · have e : sn = 100000 := by rw [HSN.out, if_pos (of_decide_eq_true HFB.out.symm)]
        subst e
        go_wp2
        go_meet
        exact ⟨rfl, rfl⟩
    case rest =>
    obtain ⟨rfl, hwx⟩ := hcut
    have hwx2 := hwx.symm
    subst hwx2
    go_wp2_with (first
          | (go_at_call 13; (with_reducible refine (HCOPY.out _ _ _ _ _ (HUW.out.below (Below.refl _ W2))).mono ?_); rintro x w3 ⟨B1, d1, B2, d2, rfl, hun, hb⟩; have HU3 := Lib.hid hun; have HB23 := Lib.hid hb; clear hun hb; (try unfold unV))
          | (go_at_call 11; (with_reducible refine (HFEW2.out _ A3 c3 (HR3.out.fr (M := fun _ => False) (Fr.of_below HB23.out) fun _ _ => not_false)).mono ?_); rintro x w4 ⟨A4, c4, rfl, hr, hb⟩; have hb24 : Below W2.heap.size W2 w4 := HB23.out.trans (hb.mono HB23.out.size); have hu4 := (HU3.out.below hb).all; have HR4 := Lib.hid hr; have HB24 := Lib.hid hb24; have HU4 := Lib.hid hu4; clear hr hb hb24 hu4)
          | (go_at_call 24; (with_reducible refine (HPROF.out _ B1 d1 B2 d2 A4 c4 HU4.out (HV.out.below (HBW.out.trans (HB24.out.mono HBW.out.size))) HR4.out).mono ?_); rintro x w5 ⟨rfl, hb⟩; have hb25 : Below W2.heap.size W2 w5 := HB24.out.trans (hb.mono HB24.out.size); have hbk := HBL.out.below hb25; have r0 : w5.cell? ⟨w2.heap.size, 0, none⟩ = some (.slice A S.sizes.length c) := (hbk.cell 0).trans rfl; have r1 : w5.cell? ⟨w2.heap.size, 1, none⟩ = some (.int .i64 S.params) := (hbk.cell 1).trans rfl; have r2 : w5.cell? ⟨w2.heap.size, 2, none⟩ = some (.int .i64 S.regs) := (hbk.cell 2).trans rfl; have r3 : w5.cell? ⟨w2.heap.size, 3, none⟩ = some (.int .i64 S.code) := (hbk.cell 3).trans rfl; have r4 : w5.cell? ⟨w2.heap.size, 4, none⟩ = some (.int .i64 S.spill) := (hbk.cell 4).trans rfl; have r5 : w5.cell? ⟨w2.heap.size, 5, none⟩ = some (.slice A2 S.blocks.length c2) := (hbk.cell 5).trans rfl; clear hbk;  have HB25 := Lib.hid hb25; clear hb hb25)
          | (go_at_call 13; (with_reducible refine (HCOPY.out _ _ _ _ _ (HUW.out.below HB25.out)).mono ?_); rintro x w6 ⟨E1, f1, E2, f2, rfl, hun, hb⟩; have hb56 := hb; have hb26 : Below W2.heap.size W2 w6 := HB25.out.trans (hb.mono HB25.out.size); have HU6 := Lib.hid hun; have HB26 := Lib.hid hb26; have HB56 := Lib.hid hb56; clear hun hb hb26 hb56; (try unfold unV))
          | (go_at_call 11; (with_reducible refine (HFEW2.out _ A3 c3 (HR3.out.fr (M := fun _ => False) (Fr.of_below HB26.out) fun _ _ => not_false)).mono ?_); rintro x w7 ⟨A6, c6, rfl, hr, hb⟩; have hb57 : Below w5.heap.size w5 w7 := HB56.out.trans (hb.mono HB56.out.size); have hb27 : Below W2.heap.size W2 w7 := HB26.out.trans (hb.mono HB26.out.size); have hu7 := (HU6.out.below hb).all; have HR7 := Lib.hid hr; have HB27 := Lib.hid hb27; have HB57 := Lib.hid hb57; have HU7 := Lib.hid hu7; clear hr hb hb27 hb57 hu7)
          | (go_at_call 25; (with_reducible refine (HWAY.out _ E1 f1 E2 f2 A6 c6 HU7.out (HV.out.below (HBW.out.trans (HB27.out.mono HBW.out.size))) HR7.out).mono ?_); rintro x w8 ⟨rfl, hb⟩; have hb58 : Below w5.heap.size w5 w8 := HB57.out.trans (hb.mono HB57.out.size); have hb28 : Below W2.heap.size W2 w8 := HB27.out.trans (hb.mono HB27.out.size); have hbk := HBL.out.below hb28; have s0 : w8.cell? ⟨w2.heap.size, 0, none⟩ = some (.slice A S.sizes.length c) := (hbk.cell 0).trans rfl; have s1 : w8.cell? ⟨w2.heap.size, 1, none⟩ = some (.int .i64 S.params) := (hbk.cell 1).trans rfl; have s2 : w8.cell? ⟨w2.heap.size, 2, none⟩ = some (.int .i64 S.regs) := (hbk.cell 2).trans rfl; have s3 : w8.cell? ⟨w2.heap.size, 3, none⟩ = some (.int .i64 S.code) := (hbk.cell 3).trans rfl; have s4 : w8.cell? ⟨w2.heap.size, 4, none⟩ = some (.int .i64 S.spill) := (hbk.cell 4).trans rfl; have s5 : w8.cell? ⟨w2.heap.size, 5, none⟩ = some (.slice A2 S.blocks.length c2) := (hbk.cell 5).trans rfl; clear hbk;  have HB28 := Lib.hid hb28; have HB58 := Lib.hid hb58; clear hb hb28 hb58)
          | (go_at_call 14; (with_reducible refine (HREF.out _ A c A2 c2 A3 c3 (HUW.out.below HB28.out)).mono ?_); rintro x w9 ⟨rfl, hb⟩; have hb89 := hb; have hb29 : Below W2.heap.size W2 w9 := HB28.out.trans (hb.mono HB28.out.size); have hbk := HBL.out.below hb29; have t0 : w9.cell? ⟨w2.heap.size, 0, none⟩ = some (.slice A S.sizes.length c) := (hbk.cell 0).trans rfl; have t1 : w9.cell? ⟨w2.heap.size, 1, none⟩ = some (.int .i64 S.params) := (hbk.cell 1).trans rfl; have t2 : w9.cell? ⟨w2.heap.size, 2, none⟩ = some (.int .i64 S.regs) := (hbk.cell 2).trans rfl; have t3 : w9.cell? ⟨w2.heap.size, 3, none⟩ = some (.int .i64 S.code) := (hbk.cell 3).trans rfl; have t4 : w9.cell? ⟨w2.heap.size, 4, none⟩ = some (.int .i64 S.spill) := (hbk.cell 4).trans rfl; have t5 : w9.cell? ⟨w2.heap.size, 5, none⟩ = some (.slice A2 S.blocks.length c2) := (hbk.cell 5).trans rfl; clear hbk; have HB29 := Lib.hid hb29; have HB89 := Lib.hid hb89; clear hb hb29 hb89)
          | (go_at_call 16; refine (alive_true (HV.out.below (HBW.out.trans (HB29.out.mono HBW.out.size)))).mono ?_; rintro x w12 ⟨rfl, hb⟩; have HB12 := Lib.hid hb; clear hb))
    go_ret
    exact ⟨rfl, (HBW.out.trans (HB29.out.mono HBW.out.size)).trans (HB12.out.mono (HBW.out.trans (HB29.out.mono HBW.out.size)).size)⟩
end Go.Proofs.YtfkjkdoloamakaaDoor
