/- What Run, Profile, Way of package run answer, where Check's answer is known. -/
import Derived.Test.YtfkjkdoloamakaaDoorQh
namespace Go.Proofs.YtfkjkdoloamakaaDoor
open Go.RowKit
set_option linter.unusedVariables false
set_option linter.unusedSimpArgs false
variable {w : World} {U : UnS} {Av Ab : Option Addr} {cv cb : Nat} {F F2 : Nat → Prop}

set_option maxRecDepth 100000 in
theorem run_bad {e : Int} (hc : CkSays w U Av cv Ab cb e) (args : List Int) (Aa : Option Addr) (ca : Nat) (hl : args.length ≤ 4294967296) (steps : Int) (hE : errOf e U args.length steps ≠ 0) :
    Calls Tryd.prog 12 #[unV U Av cv Ab cb, .slice Aa args.length ca, .int .i64 steps] w fun x w' => x = .returned (.tuple #[.agg #[.slice none 0 0, .int .i64 0, .int .i64 0], .int .i64 0, .int .i64 (errOf e U args.length steps)]) ∧ Below w.heap.size w w' := by
  obtain ⟨W, hW⟩ : ∃ W, W = (w.alloc (.cells (unC U Av cv Ab cb) 25)).alloc (.cells #[.slice none 0 0, .int .i64 0, .int .i64 0] 30) := ⟨_, rfl⟩
  have hb0 : Below w.heap.size w W := by rw [hW]; exact ((Below.refl _ _).alloc (Nat.le_refl _) _).alloc (by simp) _
  have hB : Blk W (w.heap.size + 1) 30 #[.slice none 0 0, .int .i64 0, .int .i64 0] := by rw [hW]; exact blk_new _ (by simp) _ _
  have hw1 := hB.lt
  have HW := Lib.hid hW
  have HB := Lib.hid (hc.below hb0)
  have H0 := Lib.hid hb0
  have HE := Lib.hid hE
  have HBB := Lib.hid hB
  obtain ⟨x0, hx0⟩ : ∃ x0, x0 = errOf e U args.length steps := ⟨_, rfl⟩
  have hn : (x0 != 0) = true := by rw [hx0]; simpa using hE
  have HX : Hid (errOf e U args.length steps = x0) := Lib.hid hx0.symm
  rw [← hx0]
  clear hc hb0 hE hx0 hB hW
  unfold unC unV at *
  go_enter Tryd.func12, Tryd.ntmps12
  go_wp2_with (go_at_call 39; rw [← HW.out]; refine (done_bad HB.out args Aa ca hl steps HE.out).mono ?_; rintro x w3 ⟨rfl, hb⟩; rw [HX.out]; have hB3 := Blk.fr (M := fun _ => False) HBB.out (Fr.of_below hb) not_false; have z0 : w3.cell? ⟨w.heap.size + 1, 0, none⟩ = some (.slice none 0 0) := (hB3.cell 0).trans rfl; have z1 : w3.cell? ⟨w.heap.size + 1, 1, none⟩ = some (.int .i64 0) := (hB3.cell 1).trans rfl; have z2 : w3.cell? ⟨w.heap.size + 1, 2, none⟩ = some (.int .i64 0) := (hB3.cell 2).trans rfl; have y0 := hB3.frozen 0; have y1 := hB3.frozen 1; have y2 := hB3.frozen 2; have HB3 := Lib.hid hb; clear hb hB3)
  refine bodyPost_ret (v := .tuple #[.agg #[.slice none 0 0, .int .i64 0, .int .i64 0], .int .i64 0, .int .i64 x0]) (by simp [results, Tryd.results12, go_sem, *]) rfl ⟨rfl, ?_⟩
  exact ((((H0.out.trans (HB3.out.mono H0.out.size)).setCell (Nat.le_succ _) _).setCell (Nat.le_succ _) _).setCell (Nat.le_succ _) _)

set_option maxRecDepth 100000 in
set_option maxHeartbeats 1000000 in
theorem run_ok (hc : CkSays w U Av cv Ab cb 0) (G : UnGood U) (V : Env w) (hu : UnIn F w U Av cv Ab cb) (args : List Int) (Aa : Option Addr) (ca : Nat) (hA : Row F2 w (.slice Aa args.length ca) args.length 1 (numV args)) (h1 : (args.length : Int) = U.params) (steps : Int) (h0 : 0 ≤ steps) (h2 : steps ≤ 4194304) :
    Calls Tryd.prog 12 #[unV U Av cv Ab cb, .slice Aa args.length ca, .int .i64 steps] w fun x w' => ∃ v, x = .returned (.tuple #[.agg #[v, .int .i64 (kindO (St.run U steps.toNat (St.init U args)).kind), .int .i64 (St.run U steps.toNat (St.init U args)).val], .int .i64 (St.run U steps.toNat (St.init U args)).steps, .int .i64 0]) ∧ RdN w' v (St.run U steps.toNat (St.init U args)).prints ∧ Below w.heap.size w w' := by
  obtain ⟨W, hW⟩ : ∃ W, W = (w.alloc (.cells (unC U Av cv Ab cb) 25)).alloc (.cells #[.slice none 0 0, .int .i64 0, .int .i64 0] 30) := ⟨_, rfl⟩
  have hb0 : Below w.heap.size w W := by rw [hW]; exact ((Below.refl _ _).alloc (Nat.le_refl _) _).alloc (by simp) _
  have hB : Blk W (w.heap.size + 1) 30 #[.slice none 0 0, .int .i64 0, .int .i64 0] := by rw [hW]; exact blk_new _ (by simp) _ _
  have hw1 := hB.lt
  have S0 := StGood.init G args (by obtain ⟨_, _, p2⟩ := G.par; omega)
  have S1 := StGood.run G steps.toNat _ S0 (by show (0 : Int) + _ ≤ _; omega)
  obtain ⟨sF, hsF⟩ : ∃ sF, sF = St.run U steps.toNat (St.init U args) := ⟨_, rfl⟩
  rw [← hsF] at S1
  have HS := Lib.hid S1
  have HSF : Hid (St.run U steps.toNat (St.init U args) = sF) := Lib.hid hsF.symm
  rw [← hsF]
  have HW := Lib.hid hW
  have HC := Lib.hid (hc.below hb0)
  have HU := Lib.hid (hu.below hb0)
  have HA := Lib.hid (hA.fr (M := fun _ => False) (Fr.of_below hb0) fun _ _ => not_false)
  have HG := Lib.hid G
  have H1 := Lib.hid h1
  have H0 := Lib.hid hb0
  have HV := Lib.hid (V.below hb0)
  have HBB := Lib.hid hB
  clear hc hu hA G h1 hb0 V hW hB S0 S1 hsF
  unfold unC unV at *
  go_enter Tryd.func12, Tryd.ntmps12
  go_wp2_with (go_at_call 39; rw [← HW.out]; refine (done_ok HC.out HG.out HV.out HU.out args Aa ca HA.out H1.out steps h0 h2).mono ?_; rintro x w3 ⟨F', p, rfl, E⟩; rw [HSF.out] at E; obtain ⟨L, Q⟩ := E; have h12 := P12 Q.e; have hb := Q.f.below (B := W.heap.size) (fun _ h => h.elim) (Nat.le_refl _); have hB3 := Blk.fr (M := fun _ => False) HBB.out Q.f not_false; have z0 : w3.cell? ⟨w.heap.size + 1, 0, none⟩ = some (.slice none 0 0) := (hB3.cell 0).trans rfl; have z1 : w3.cell? ⟨w.heap.size + 1, 1, none⟩ = some (.int .i64 0) := (hB3.cell 1).trans rfl; have z2 : w3.cell? ⟨w.heap.size + 1, 2, none⟩ = some (.int .i64 0) := (hB3.cell 2).trans rfl; have y0 := hB3.frozen 0; have y1 := hB3.frozen 1; have y2 := hB3.frozen 2; have lz := hB3.lt; have lp := Q.e.blk.lt; have np : p ≠ w.heap.size + 1 := ?np; (case np => (have h := (Q.m p (.inl rfl)).elim (fun h => False.elim h) id; omega)); have np' := np.symm; have HB3 := Lib.hid hb; have HQ := Lib.hid Q; have HBK := Lib.hid hB3; clear hb hB3 Q)
  obtain ⟨st, hst⟩ : ∃ st, st = sF.steps := ⟨_, rfl⟩
  rw [← hst] at h12
  have HST : Hid (sF.steps = st) := Lib.hid hst.symm
  clear hst
  go_region_held3 (fun w' => w'.cell? ⟨p, 12, none⟩ = some (.int .i64 st)) (first | exact k0 | (go_keep; done))
    (first | (go_at_call 40; refine (outcome_any HS.out (HQ.out.drewN 1).x).mono ?_; rintro e w4 ⟨v, rfl, hv, hb⟩; obtain ⟨A1, c1, rfl⟩ := own_shape hv; have k0 := (hb.cell (p := ⟨p, 12, none⟩) ?za).trans h12; (case za => exact lp); have hB4 := Blk.fr (M := fun _ => False) (w := w3.drewN 1) (HBK.out.drewN 1) (Fr.of_below hb) not_false; have x0 : w4.cell? ⟨w.heap.size + 1, 0, none⟩ = some (.slice none 0 0) := (hB4.cell 0).trans rfl; have x1 : w4.cell? ⟨w.heap.size + 1, 1, none⟩ = some (.int .i64 0) := (hB4.cell 1).trans rfl; have x2 : w4.cell? ⟨w.heap.size + 1, 2, none⟩ = some (.int .i64 0) := (hB4.cell 2).trans rfl; have v0 := hB4.frozen 0; have v1 := hB4.frozen 1; have v2 := hB4.frozen 2; have HB4 := Lib.hid hB4; clear hB4))
  go_wp2
  refine bodyPost_ret (v := .tuple #[.agg #[.slice A1 sF.prints.length c1, .int .i64 (kindO sF.kind), .int .i64 sF.val], .int .i64 st, .int .i64 0]) (by simp [results, Tryd.results12, go_sem, *]) rfl ⟨_, by rw [HST.out], ?_, ?_⟩
  · refine ⟨fun g => w3.heap.size ≤ g, (Row.of_own (N := fun g => w3.heap.size ≤ g) hv (fun b h => h) (by decide)).fr (M := fun b => b = w.heap.size + 1) (Fr.three _ _ _ _ _ _ _ _) (fun g hg e => ?_)⟩
    have e' : g = w.heap.size + 1 := e
    omega
  · have hbb : Below w.heap.size w w4 := (H0.out.trans (HB3.out.mono H0.out.size)).trans (Below.mono (w := w3) (B' := w.heap.size) ⟨hb.os, hb.tape, hb.output, hb.size, hb.block⟩ (Nat.le_trans H0.out.size HB3.out.size))
    exact (((hbb.setCell (Nat.le_succ _) _).setCell (Nat.le_succ _) _).setCell (Nat.le_succ _) _)
end Go.Proofs.YtfkjkdoloamakaaDoor
