/- Told and Run of the specification. -/
import Derived.Test.YtfkjkdoloamakaaDoorTm
import Derived.Test.YtfkjkdoloamakaaDoorTn
import Derived.Test.YtfkjkdoloamakaaDoorMg
namespace Go.Proofs.YtfkjkdoloamakaaDoor
open Go.RowKit
set_option linter.unusedVariables false
set_option linter.unusedSimpArgs false
variable {F : Nat → Prop} {w0 w : World} {M0 : Nat → Prop} {p : Nat} {U : UnS} {s : St}

set_option maxRecDepth 100000 in
set_option maxHeartbeats 2000000 in
theorem rtold_any (hpl : s.prints.length ≤ 10000000000000) (E : EngX layR F w0 M0 w p U s) :
    Calls Tryd.prog 42 #[.pointer (some ⟨p, 0, none⟩)] w fun e w' => ∃ v, e = .returned (.agg #[v, .int .i64 (kindO s.kind), .int .i64 s.val]) ∧ w'.ownsRow w.heap.size 2 1 v s.prints.length (numV s.prints) ∧ Below w.heap.size w w' := by
  obtain ⟨L, Q⟩ := E
  have c12 := S12 Q.e
  have c13 := S13 Q.e
  have c14 := S14 Q.e
  have lp : p < w.heap.size := Q.e.blk.lt
  have np : p ≠ w.heap.size := by omega
  have np' := np.symm
  have lp1 : p < w.heap.size + 1 := by omega
  have lp2 : p < w.heap.size + 1 + 1 := by omega
  have lp3 : p < w.heap.size + 1 + 1 + 1 := by omega
  obtain ⟨A, c, hv⟩ := own_shape Q.e.prints
  have hown := Q.e.prints
  rw [hv] at c12 hown
  have hrow : Row (fun _ => True) w (.slice A s.prints.length c) s.prints.length 1 (numV s.prints) := Row.of_own hown (fun _ _ => trivial) (by decide)
  obtain ⟨i0, hi, hz0, hz1, hz2⟩ := info_parts i64_info
  obtain ⟨kd, hkd⟩ : ∃ x, x = kindO s.kind := ⟨_, rfl⟩
  rw [← hkd] at c13 ⊢
  obtain ⟨vl, hvl⟩ : ∃ x, x = s.val := ⟨_, rfl⟩
  rw [← hvl] at c14 ⊢
  obtain ⟨pr, hpr⟩ : ∃ x, x = s.prints := ⟨_, rfl⟩
  rw [← hpr] at c12 hrow hpl ⊢
  have HR := Lib.hid hrow
  clear hown hv hrow Q hkd hvl hpr
  go_enter Tryd.func42, Tryd.ntmps42
  go_upto_region 2 with fail
  obtain ⟨W2, hW2⟩ : ∃ W2, W2 = (w.alloc (.cells #[.slice none 0 0, .int .i64 0, .int .i64 0] 30)).alloc (.cells #[.slice A pr.length c, .int .i64 kd, .int .i64 vl] 30) := ⟨_, rfl⟩
  rw [← hW2]
  have hb2 : Below w.heap.size w W2 := by rw [hW2]; exact ((Below.refl _ _).alloc (Nat.le_refl _) _).alloc (by simp) _
  have b2 : Blk W2 w.heap.size 30 #[.slice none 0 0, .int .i64 0, .int .i64 0] := by rw [hW2]; exact (blk_new w rfl _ _).alloc _
  have b3 : Blk W2 (w.heap.size + 1) 30 #[.slice A pr.length c, .int .i64 kd, .int .i64 vl] := by rw [hW2]; exact blk_new _ (by simp) _ _
  have hz2' : W2.heap.size = w.heap.size + 2 := by rw [hW2]; simp
  have k12 := (hb2.cell (p := ⟨p, 12, none⟩) lp).trans c12
  have HRW := Lib.hid (HR.out.fr (M := fun _ => False) (Fr.of_below hb2) fun _ _ => not_false)
  obtain ⟨g3, hg3⟩ : ∃ g, g = w.heap.size + 1 := ⟨_, rfl⟩
  rw [← hg3] at b3 ⊢
  have HB2 := Lib.hid hb2
  have X2 := Lib.hid b2
  have X3 := Lib.hid b3
  have HZ := Lib.hid hz2'
  have HG3 := Lib.hid hg3
  have lpW : p < W2.heap.size := by omega
  clear hW2 hb2 b2 b3 hz2' hg3 c12 c13 c14 lp1 lp2 lp3
  go_wp2_with (at_builtin; refine wpList_append_row rfl _ _ 26 rfl W2.heap.size 2 i0 (.int .i64 0) 1 8 Tryd.underlying26 hi hz0 hz1 hz2 rfl (by decide) _ _ _ rfl (own_empty W2 _ (Nat.le_refl _) _ _) A pr.length c (numV pr) rfl (HRW.out.fr (M := fun _ => False) ((Fr.refl _ W2).alloc _) fun _ _ => not_false) num_one ?q1 ?q2 ?q3 ?_; (case q1 => (unfold maxLen; omega)); (case q2 => omega); (case q3 => simp); intro v' w1 hown hg _; obtain ⟨A1, c1, rfl⟩ := own_shape hown; have hb : Below W2.heap.size W2 w1 := ((Below.refl _ W2).alloc (Nat.le_refl _) _).grown hg (by simp) (fun k hk => by injection hk with hk; exact Nat.le_of_eq hk); have hf := Fr.of_below (M := fun _ => False) hb; have x2 := X2.out.fr hf not_false; have x3 := X3.out.fr hf not_false; have y20 : w1.cell? ⟨w.heap.size, 0, none⟩ = some (.slice none 0 0) := (x2.cell 0).trans rfl; have y21 : w1.cell? ⟨w.heap.size, 1, none⟩ = some (.int .i64 0) := (x2.cell 1).trans rfl; have y22 : w1.cell? ⟨w.heap.size, 2, none⟩ = some (.int .i64 0) := (x2.cell 2).trans rfl; have y30 : w1.cell? ⟨g3, 0, none⟩ = some (.slice A pr.length c) := (x3.cell 0).trans rfl; have y31 : w1.cell? ⟨g3, 1, none⟩ = some (.int .i64 kd) := (x3.cell 1).trans rfl; have y32 : w1.cell? ⟨g3, 2, none⟩ = some (.int .i64 vl) := (x3.cell 2).trans rfl; have f20 := x2.frozen 0; have f21 := x2.frozen 1; have f22 := x2.frozen 2; have f30 := x3.frozen 0; have n23 : w.heap.size ≠ g3 := (by have := HG3.out; omega); have n32 := n23.symm; have HOWN := Lib.hid hown; have HBB := Lib.hid hb; clear hown hg hb hf x2 x3)
  refine bodyPost_ret (v := .agg #[.slice A1 pr.length c1, .int .i64 kd, .int .i64 vl]) (by simp [results, Tryd.results42, go_sem, *]) rfl ⟨_, rfl, ?_, ?_⟩
  · have hz := HZ.out
    have hg := HG3.out
    have ho : w1.ownsRow W2.heap.size 2 1 (.slice A1 pr.length c1) pr.length (numV pr) := by simpa using HOWN.out
    exact own_le (by omega) (own_setb (by simp only; omega) _ (own_setb (by simp only; omega) _ (own_setb (by simp only; omega) _ (own_setb (by simp only; omega) _ ho))))
  · have hg := HG3.out
    exact ((((HB2.out.trans (HBB.out.mono HB2.out.size)).setCell (by simp only; omega) _).setCell (Nat.le_refl _) _).setCell (Nat.le_refl _) _).setCell (Nat.le_refl _) _

set_option maxRecDepth 100000 in
set_option maxHeartbeats 4000000 in
theorem rrun_any {Av Ab : Option Addr} {cv cb : Nat} (hu : UnIn F w U Av cv Ab cb) (G : UnGood U) (args : List Int) (Aa : Option Addr) (ca : Nat) (hA : Row (fun g => g < w.heap.size) w (.slice Aa args.length ca) args.length 1 (numV args)) (hal : (args.length : Int) = U.params) (n : Int) (h0 : 0 ≤ n) (h1 : n ≤ 4194304) :
    Calls Tryd.prog 17 #[unV U Av cv Ab cb, .slice Aa args.length ca, .int .i64 n] w fun e w' => ∃ v, e = .returned (.tuple #[.agg #[v, .int .i64 (kindO (St.run U n.toNat (St.init U args)).kind), .int .i64 (St.run U n.toNat (St.init U args)).val], .int .i64 (St.run U n.toNat (St.init U args)).steps]) ∧ RdN w' v (St.run U n.toNat (St.init U args)).prints ∧ Below w.heap.size w w' := by
  have hp8 := G.par
  have ha1 : (args.length : Int) ≤ U.regs := by omega
  have ha8 : args.length ≤ 8 := by omega
  have S0 := StGood.init G args ha1
  have hst0 : (St.init U args).steps = 0 := rfl
  have hN := St.run_near U G n.toNat (St.init U args) S0 (by rw [hst0]; omega)
  have hSF := StGood.run G n.toNat (St.init U args) S0 (by rw [hst0]; omega)
  obtain ⟨sF, hsF⟩ : ∃ x, x = St.run U n.toNat (St.init U args) := ⟨_, rfl⟩
  obtain ⟨sR, hsR⟩ : ∃ x, x = St.runR U n.toNat (St.init U args) := ⟨_, rfl⟩
  rw [← hsF, ← hsR] at hN
  rw [← hsF] at hSF ⊢
  have e1 : sR.kind = sF.kind := by rw [hN.e]
  have e2 : sR.val = sF.val := by rw [hN.e]
  have e3 : sR.steps = sF.steps := by rw [hN.e]
  have e4 : sR.prints = sF.prints := by rw [hN.e]
  have hpl : sR.prints.length ≤ 10000000000000 := by rw [e4]; have := hSF.pr; have := hSF.st1; omega
  obtain ⟨W0, hW0⟩ : ∃ W0, W0 = (w.alloc (.cells (unC U Av cv Ab cb) 25)).alloc (.cells #[.slice none 0 0, .int .i64 0, .int .i64 0] 30) := ⟨_, rfl⟩
  have hb0 : Below w.heap.size w W0 := by rw [hW0]; exact ((Below.refl _ _).alloc (Nat.le_refl _) _).alloc (by simp) _
  have bU : Blk W0 w.heap.size 25 (unC U Av cv Ab cb) := by rw [hW0]; exact (blk_new w rfl _ _).alloc _
  have bO : Blk W0 (w.heap.size + 1) 30 #[.slice none 0 0, .int .i64 0, .int .i64 0] := by rw [hW0]; exact blk_new _ (by simp) _ _
  have q0 : W0.cell? ⟨w.heap.size, 0, none⟩ = some (.slice Av U.sizes.length cv) := (bU.cell 0).trans rfl
  have q1 : W0.cell? ⟨w.heap.size, 1, none⟩ = some (.int .i64 U.params) := (bU.cell 1).trans rfl
  have q2 : W0.cell? ⟨w.heap.size, 2, none⟩ = some (.int .i64 U.regs) := (bU.cell 2).trans rfl
  have q3 : W0.cell? ⟨w.heap.size, 3, none⟩ = some (.int .i64 U.code) := (bU.cell 3).trans rfl
  have q4 : W0.cell? ⟨w.heap.size, 4, none⟩ = some (.int .i64 U.spill) := (bU.cell 4).trans rfl
  have q5 : W0.cell? ⟨w.heap.size, 5, none⟩ = some (.slice Ab U.blocks.length cb) := (bU.cell 5).trans rfl
  have hz : W0.heap.size = w.heap.size + 2 := by rw [hW0]; simp
  have knew := rnew_any (hu.below hb0) G args Aa ca ((hA.mono fun g hg _ => Nat.lt_of_lt_of_le hg hb0.size).fr (M := fun _ => False) (Fr.of_below hb0) fun _ _ => not_false) ha1 ha8
  have kgo := fun (W : World) (M : Nat → Prop) (w9 : World) (p : Nat) (E : EngX layR F W M w9 p U (St.init U args)) => rgo_any G S0 E n h0 h1 (by rw [hst0]; decide)
  rw [← hsR] at kgo
  obtain ⟨gO, hgO⟩ : ∃ g, g = w.heap.size + 1 := ⟨_, rfl⟩
  rw [← hgO] at bO
  have hgz : gO < W0.heap.size := by omega
  unfold unV at *
  unfold unC at hW0
  have KNEW := Lib.hid knew
  have KGO := Lib.hid kgo
  have HW0 := Lib.hid hW0
  have HB0 := Lib.hid hb0
  have HBO := Lib.hid bO
  have HGO := Lib.hid hgO
  have HZ := Lib.hid hz
  have HE := Lib.hid (And.intro e1 (And.intro e2 (And.intro e3 e4)))
  clear knew kgo hW0 hb0 bO hgO hz bU hu hA G S0 hN hSF hsF hsR hp8 ha1 ha8 hst0 e1 e2 e3 e4
  go_enter Tryd.func17, Tryd.ntmps17
  go_upto_region 1 with fail
  rw [← HW0.out, ← HGO.out]
  go_upto_region 3 with (first
    | (go_at_call 26; refine (KNEW.out).mono ?_; rintro e w1 ⟨p, rfl, E1⟩; have HE1 := Lib.hid E1; clear E1)
    | (go_at_call 27; refine (KGO.out _ _ _ _ HE1.out).mono ?_; rintro e w2 ⟨rfl, E2⟩; have HE2 := Lib.hid E2; clear E2))
  obtain ⟨L, Q⟩ := HE2.out
  have hbw : Below W0.heap.size W0 w2 := Q.f.below (fun _ h => h.elim) (Nat.le_refl _)
  have c11 := S11 Q.e
  have lpw : p < w2.heap.size := Q.e.blk.lt
  have hpO : W0.heap.size ≤ p := (Q.m p (.inl rfl)).elim (fun h => h.elim) id
  have bO2 := HBO.out.fr (Fr.of_below (M := fun _ => False) hbw) not_false
  obtain ⟨st, hst⟩ : ∃ x, x = sR.steps := ⟨_, rfl⟩
  rw [← hst] at c11
  have HST := Lib.hid hst
  have HBW := Lib.hid hbw
  have HBO2 := Lib.hid bO2
  have npO : p ≠ gO := by omega
  have lgO : gO < w2.heap.size := bO2.lt
  clear Q hbw hst bO2
  have HD : Hid (EngX layR F W0 (fun _ => False) w2.drew p U sR) := Lib.hid (HE2.out.drewN 1)
  go_region_held3 (fun w' => w'.cell? ⟨p, 11, none⟩ = some (.int .i64 st)) (first | exact c11 | exact k0 | (go_keep; done) | (simp [go_sem, npO, npO.symm]; exact k0))
    (first | (go_at_call 42; (with_reducible refine (rtold_any hpl HD.out).mono ?_); rintro e w4 ⟨v, rfl, hv, hb⟩; obtain ⟨A1, c1, rfl⟩ := own_shape hv; have k0 := (hb.cell (p := ⟨p, 11, none⟩) lpw).trans c11; have z0 : w4.cell? ⟨gO, 0, none⟩ = some (.slice none 0 0) := (hb.cell (p := ⟨gO, 0, none⟩) lgO).trans ((HBO2.out.cell 0).trans rfl); have z1 : w4.cell? ⟨gO, 1, none⟩ = some (.int .i64 0) := (hb.cell (p := ⟨gO, 1, none⟩) lgO).trans ((HBO2.out.cell 1).trans rfl); have z2 : w4.cell? ⟨gO, 2, none⟩ = some (.int .i64 0) := (hb.cell (p := ⟨gO, 2, none⟩) lgO).trans ((HBO2.out.cell 2).trans rfl); have y0 : w4.frozen? ⟨gO, 0, none⟩ = false := (hb.frozen (p := ⟨gO, 0, none⟩) lgO).trans (HBO2.out.frozen 0); have y1 : w4.frozen? ⟨gO, 1, none⟩ = false := (hb.frozen (p := ⟨gO, 1, none⟩) lgO).trans (HBO2.out.frozen 1); have y2 : w4.frozen? ⟨gO, 2, none⟩ = false := (hb.frozen (p := ⟨gO, 2, none⟩) lgO).trans (HBO2.out.frozen 2); have HV := Lib.hid hv; have HBT := Lib.hid hb; clear hv hb))
  all_goals
    go_wp2
    refine bodyPost_ret (v := .tuple #[.agg #[.slice A1 sR.prints.length c1, .int .i64 (kindO sR.kind), .int .i64 sR.val], .int .i64 st]) (by simp [results, Tryd.results17, go_sem, *]) rfl ⟨.slice A1 sR.prints.length c1, ?_, ?_, ?_⟩
    · obtain ⟨e1, e2, e3, e4⟩ := HE.out
      rw [HST.out, e1, e2, e3]
    · have ho := own_setb (a := ⟨gO, 2, none⟩) lgO (.int .i64 sR.val) (own_setb (a := ⟨gO, 1, none⟩) lgO (.int .i64 (kindO sR.kind)) (own_setb (a := ⟨gO, 0, none⟩) lgO (.slice A1 sR.prints.length c1) HV.out))
      rw [← HE.out.2.2.2]
      exact ⟨_, Row.of_own (N := fun _ => True) ho (fun _ _ => trivial) (by decide)⟩
    · have hz := HZ.out
      have hgo := HGO.out
      have hbt : Below w2.heap.size w2 w4 := ⟨HBT.out.os, HBT.out.tape, HBT.out.output, HBT.out.size, HBT.out.block⟩
      exact (((HB0.out.trans ((HBW.out.trans (hbt.mono HBW.out.size)).mono HB0.out.size)).setCell (by simp only; omega) _).setCell (by simp only; omega) _).setCell (by simp only; omega) _
end Go.Proofs.YtfkjkdoloamakaaDoor
