/- What do of package run does: the state is St.doR. -/
import Derived.Test.YtfkjkdoloamakaaDoorRn
namespace Go.Proofs.YtfkjkdoloamakaaDoor
open Go.RowKit
set_option linter.unusedVariables false
set_option linter.unusedSimpArgs false
variable {F : Nat → Prop} {w0 w : World} {M0 : Nat → Prop} {p : Nat} {U : UnS} {s : St}



set_option maxRecDepth 100000 in
set_option maxHeartbeats 4000000 in
theorem rdo_some_ok (S : StGood U s) (G : UnGood U) (E : EngX layP F w0 M0 w p U s) (V : Env w) (k d a b c n g : Int) (hO : OpGood U ⟨k, d, a, b, c, n, g⟩) (hg : g ≠ -1) (hg2 : (s.reg g).2 = 0) (hg1 : (s.reg g).1 ≠ 0) (v1 v2 : Int) (hv : doV k n (s.reg a) (s.reg b) (s.reg c) = (v1, v2)) (ht : doT k (s.reg a) (s.reg b) (s.reg c) = 0) (he : doE k (s.reg a) (s.reg b) (s.reg c) = 0) :
    Calls Tryd.prog 78 #[.pointer (some ⟨p, 0, none⟩), .agg #[.int .i64 k, .int .i64 d, .int .i64 a, .int .i64 b, .int .i64 c, .int .i64 n, .int .i64 g]] w (ActR F w0 M0 p U (s.put d (v1, v2), 0, false)) := by
  obtain ⟨L, Q⟩ := E
  have np : p ≠ w.heap.size := Nat.ne_of_lt Q.e.blk.lt
  have nr : L.gr ≠ w.heap.size := Nat.ne_of_lt Q.e.regs.lt
  have np' := np.symm
  have nr' := nr.symm
  have lp : p < w.heap.size := Q.e.blk.lt
  have lr : L.gr < w.heap.size := Q.e.regs.lt
  have lp1 : p < w.heap.size + 1 := by omega
  have lr1 : L.gr < w.heap.size + 1 := by omega
  have lp2 : p < w.heap.size + 1 + 1 := by omega
  have lr2 : L.gr < w.heap.size + 1 + 1 := by omega
  have np1 : p ≠ w.heap.size + 1 := by omega
  have nr1 : L.gr ≠ w.heap.size + 1 := by omega
  have np2 : p ≠ w.heap.size + 1 + 1 := by omega
  have nr2 : L.gr ≠ w.heap.size + 1 + 1 := by omega
  have np1' := np1.symm
  have nr1' := nr1.symm
  have np2' := np2.symm
  have nr2' := nr2.symm
  have np3 : p ≠ w.heap.size + 2 := by omega
  have nr3 : L.gr ≠ w.heap.size + 2 := by omega
  have np3p : w.heap.size + 1 + 1 ≠ p := by omega
  have nr3p : w.heap.size + 1 + 1 ≠ L.gr := by omega
  have nx3p : w.heap.size + 1 + 1 ≠ w.heap.size := by omega
  have np3' := np3.symm
  have nr3' := nr3.symm
  have hr := S.regs
  have hrl : s.regs.length ≤ 4096 := by have := G.r2; omega
  have ha0 := hO.a.1
  have ha1 : a < s.regs.length := by rw [hr]; exact hO.a.2
  have hb0 := hO.b.1
  have hb1 : b < s.regs.length := by rw [hr]; exact hO.b.2
  have hc0 := hO.c.1
  have hc1 : c < s.regs.length := by rw [hr]; exact hO.c.2
  have hd0 := hO.d.1
  have hd1 : d < s.regs.length := by rw [hr]; exact hO.d.2
  have c6 := P6 Q.e
  have ra0 := reg0 Q.e ha0 ha1
  have ra1 := reg1 Q.e ha0 ha1
  have rb0 := reg0 Q.e hb0 hb1
  have rb1 := reg1 Q.e hb0 hb1
  have rc0 := reg0 Q.e hc0 hc1
  have rc1 := reg1 Q.e hc0 hc1
  have rd0 := reg0 Q.e hd0 hd1
  have rd1 := reg1 Q.e hd0 hd1
  have f0 := Q.e.regs.frozen (d.toNat * 2)
  have f1 := Q.e.regs.frozen (d.toNat * 2 + 1)
  have hgi : inR g U.regs := hO.g.resolve_left hg
  have hg0 := hgi.1
  have hgl : g < s.regs.length := by rw [hr]; exact hgi.2
  have hgn : (g == -1) = false := by simpa using hg
  have rg0 := reg0 Q.e hg0 hgl
  have rg1 := reg1 Q.e hg0 hgl
  have hgs : ∃ g1 g2, g1 = (s.reg g).1 ∧ g2 = (s.reg g).2 := ⟨_, _, rfl, rfl⟩
  obtain ⟨g1, g2, eg1, eg2⟩ := hgs
  rw [← eg1] at rg0 hg1
  rw [← eg2] at rg1 hg2
  clear eg1 eg2 hgi
  subst hg2
  have hg1' : (g1 == 0) = false := by simpa using hg1
  have HD := Lib.hid (do_is ⟨k, d, a, b, c, n, g⟩ (s.reg a) (s.reg b) (s.reg c) _ _ _ _ hv ht he)
  have hrs : ∃ a1 a2 b1 b2 c1 c2, (s.reg a).1 = a1 ∧ (s.reg a).2 = a2 ∧ (s.reg b).1 = b1 ∧ (s.reg b).2 = b2 ∧ (s.reg c).1 = c1 ∧ (s.reg c).2 = c2 := ⟨_, _, _, _, _, _, rfl, rfl, rfl, rfl, rfl, rfl⟩
  obtain ⟨a1, a2, b1, b2, c1, c2, ea1, ea2, eb1, eb2, ec1, ec2⟩ := hrs
  rw [ea1] at ra0
  rw [ea2] at ra1
  rw [eb1] at rb0
  rw [eb2] at rb1
  rw [ec1] at rc0
  rw [ec2] at rc1
  have eA : s.reg a = (a1, a2) := by rw [← ea1, ← ea2]
  have eB : s.reg b = (b1, b2) := by rw [← eb1, ← eb2]
  have eC : s.reg c = (c1, c2) := by rw [← ec1, ← ec2]
  rw [eA, eB, eC] at HD
  clear ea1 ea2 eb1 eb2 ec1 ec2 eA eB eC hv ht he
  have HQ := Lib.hid Q
  have HV := Lib.hid V
  have HS := Lib.hid S
  have HO := Lib.hid hO
  clear Q hO S V hr
  go_enter Tryd.func78, Tryd.ntmps78
  go_wp2
  go_region
  go_wp2
  go_region_held3 (fun w' => w'.cell? ⟨w.heap.size, 0, none⟩ = some (.int .i64 k) ∧ w'.cell? ⟨w.heap.size, 1, none⟩ = some (.int .i64 d) ∧ w'.cell? ⟨w.heap.size, 2, none⟩ = some (.int .i64 a) ∧ w'.cell? ⟨w.heap.size, 3, none⟩ = some (.int .i64 b) ∧ w'.cell? ⟨w.heap.size, 4, none⟩ = some (.int .i64 c) ∧ w'.cell? ⟨w.heap.size, 5, none⟩ = some (.int .i64 n) ∧ w'.cell? ⟨w.heap.size, 6, none⟩ = some (.int .i64 g) ∧ w'.cell? ⟨p, 6, none⟩ = some (.slice (some ⟨L.gr, 0, none⟩) s.regs.length s.regs.length) ∧ w'.cell? ⟨L.gr, a.toNat * 2, none⟩ = some (.int .i64 a1) ∧ w'.cell? ⟨L.gr, a.toNat * 2 + 1, none⟩ = some (.int .i64 a2) ∧ w'.cell? ⟨L.gr, b.toNat * 2, none⟩ = some (.int .i64 b1) ∧ w'.cell? ⟨L.gr, b.toNat * 2 + 1, none⟩ = some (.int .i64 b2) ∧ w'.cell? ⟨L.gr, c.toNat * 2, none⟩ = some (.int .i64 c1) ∧ w'.cell? ⟨L.gr, c.toNat * 2 + 1, none⟩ = some (.int .i64 c2)) (first | exact ⟨k0, k1, k2, k3, k4, k5, k6, k7, k8, k9, k10, k11, k12, k13⟩ | exact ⟨keepS nx3p k0, keepS nx3p k1, keepS nx3p k2, keepS nx3p k3, keepS nx3p k4, keepS nx3p k5, keepS nx3p k6, keepS np3p k7, keepS nr3p k8, keepS nr3p k9, keepS nr3p k10, keepS nr3p k11, keepS nr3p k12, keepS nr3p k13⟩ | exact ⟨keepA k0, keepA k1, keepA k2, keepA k3, keepA k4, keepA k5, keepA k6, keepA k7, keepA k8, keepA k9, keepA k10, keepA k11, keepA k12, keepA k13⟩ | (go_keep; done) | (refine ⟨?_, ?_, ?_, ?_, ?_, ?_, ?_, keepB (w := w) ?_ lp c6, keepB (w := w) ?_ lr ra0, keepB (w := w) ?_ lr ra1, keepB (w := w) ?_ lr rb0, keepB (w := w) ?_ lr rb1, keepB (w := w) ?_ lr rc0, keepB (w := w) ?_ lr rc1⟩ <;> first | (simp; done) | (go_keep; done) | ((repeat' (first | exact Below.refl _ _ | with_reducible refine Below.drew ?_ | with_reducible refine drewN_below ?_ _ | with_reducible refine Below.alloc ?_ ?_ _ | (simp; done) | (simp; omega))))))
    (first | (obtain ⟨s0, s1, s2, s3, s4, s5, s6, s7, s8, s9, s10, s11, s12, s13⟩ := ‹_ ∧ _›; go_at_call 100; refine (HD.out _).mono ?_; rintro e w1 ⟨rfl, hb⟩; have k0 := keepB hb (by first | (simp only [World.size_alloc, World.size_drew]; omega) | (simp; omega) | simp) s0; have k1 := keepB hb (by first | (simp only [World.size_alloc, World.size_drew]; omega) | (simp; omega) | simp) s1; have k2 := keepB hb (by first | (simp only [World.size_alloc, World.size_drew]; omega) | (simp; omega) | simp) s2; have k3 := keepB hb (by first | (simp only [World.size_alloc, World.size_drew]; omega) | (simp; omega) | simp) s3; have k4 := keepB hb (by first | (simp only [World.size_alloc, World.size_drew]; omega) | (simp; omega) | simp) s4; have k5 := keepB hb (by first | (simp only [World.size_alloc, World.size_drew]; omega) | (simp; omega) | simp) s5; have k6 := keepB hb (by first | (simp only [World.size_alloc, World.size_drew]; omega) | (simp; omega) | simp) s6; have k7 := keepB hb (by first | (simp only [World.size_alloc, World.size_drew]; omega) | (simp; omega) | simp) s7; have k8 := keepB hb (by first | (simp only [World.size_alloc, World.size_drew]; omega) | (simp; omega) | simp) s8; have k9 := keepB hb (by first | (simp only [World.size_alloc, World.size_drew]; omega) | (simp; omega) | simp) s9; have k10 := keepB hb (by first | (simp only [World.size_alloc, World.size_drew]; omega) | (simp; omega) | simp) s10; have k11 := keepB hb (by first | (simp only [World.size_alloc, World.size_drew]; omega) | (simp; omega) | simp) s11; have k12 := keepB hb (by first | (simp only [World.size_alloc, World.size_drew]; omega) | (simp; omega) | simp) s12; have k13 := keepB hb (by first | (simp only [World.size_alloc, World.size_drew]; omega) | (simp; omega) | simp) s13; (try (have z0 : w1.cell? ⟨w.heap.size + 1 + 1, 0, none⟩ = some (.int .i64 0) := keepB hb ?za ?zb; (case za => (simp only [World.size_alloc, World.size_drew]; omega)); (case zb => simp [go_sem]))); (try (have y0 : w1.frozen? ⟨w.heap.size + 1 + 1, 0, none⟩ = false := (hb.frozen (p := ⟨w.heap.size + 1 + 1, 0, none⟩) ?za).trans ?zb; (case za => (simp only [World.size_alloc, World.size_drew]; omega)); (case zb => simp [go_sem]))); (try (have z1 : w1.cell? ⟨w.heap.size + 1 + 1, 1, none⟩ = some (.int .i64 0) := keepB hb ?za ?zb; (case za => (simp only [World.size_alloc, World.size_drew]; omega)); (case zb => simp [go_sem]))); (try (have y1 : w1.frozen? ⟨w.heap.size + 1 + 1, 1, none⟩ = false := (hb.frozen (p := ⟨w.heap.size + 1 + 1, 1, none⟩) ?za).trans ?zb; (case za => (simp only [World.size_alloc, World.size_drew]; omega)); (case zb => simp [go_sem]))); have hz1 := hb.size; simp only [World.size_alloc, World.size_drew] at hz1; (have bw1 : Below w.heap.size w w1 := Below.trans ?za (hb.mono ?zb); (case za => go_grown); (case zb => (simp only [World.size_alloc, World.size_drew]; omega))); have d0 := keepB bw1 lr rd0; have d1 := keepB bw1 lr rd1; have e0 := (bw1.frozen (p := ⟨L.gr, d.toNat * 2, none⟩) lr).trans f0; have e1 := (bw1.frozen (p := ⟨L.gr, d.toNat * 2 + 1, none⟩) lr).trans f1; have q1 : w1.heap.size ≠ p := (by omega); have q2 : w1.heap.size ≠ L.gr := (by omega); have q3 : w1.heap.size ≠ w.heap.size := (by omega); have q5 := q3.symm; have q6 := q1.symm; have q7 := q2.symm; have q8 : L.gr < w1.heap.size := (by omega); clear s0 s1 s2 s3 s4 s5 s6 s7 s8 s9 s10 s11 s12 s13))
  all_goals
    go_wp2
    go_region
    go_wp2
    go_ret2
    (first | refine ⟨rfl, ((HQ.out.below ?_).newReg okP d.toNat (v1, v2) |>.drewN 1).x⟩ | refine ⟨rfl, ((HQ.out.below ?_).newReg okP d.toNat (v1, v2) |>.alloc _ |>.drewN 1).x⟩)
    (repeat' (first | exact bw1 | (with_reducible refine drewN_below ?_ _) | (with_reducible refine Below.drew ?_) | (with_reducible refine Below.alloc ?_ ?_ _) | (with_reducible refine Below.setCell ?_ ?_ _) | omega | (simp only [World.size_alloc, World.size_drew]; omega)))

set_option maxRecDepth 100000 in
set_option maxHeartbeats 4000000 in
theorem rdo_some_trap (S : StGood U s) (G : UnGood U) (E : EngX layP F w0 M0 w p U s) (V : Env w) (k d a b c n g : Int) (hO : OpGood U ⟨k, d, a, b, c, n, g⟩) (hg : g ≠ -1) (hg2 : (s.reg g).2 = 0) (hg1 : (s.reg g).1 ≠ 0) (v1 v2 t : Int) (hv : doV k n (s.reg a) (s.reg b) (s.reg c) = (v1, v2)) (ht : doT k (s.reg a) (s.reg b) (s.reg c) = t) (he : doE k (s.reg a) (s.reg b) (s.reg c) = 0) (ht0 : ¬ t = 0) :
    Calls Tryd.prog 78 #[.pointer (some ⟨p, 0, none⟩), .agg #[.int .i64 k, .int .i64 d, .int .i64 a, .int .i64 b, .int .i64 c, .int .i64 n, .int .i64 g]] w (ActR F w0 M0 p U (s, t, false)) := by
  obtain ⟨L, Q⟩ := E
  have np : p ≠ w.heap.size := Nat.ne_of_lt Q.e.blk.lt
  have nr : L.gr ≠ w.heap.size := Nat.ne_of_lt Q.e.regs.lt
  have np' := np.symm
  have nr' := nr.symm
  have lp : p < w.heap.size := Q.e.blk.lt
  have lr : L.gr < w.heap.size := Q.e.regs.lt
  have lp1 : p < w.heap.size + 1 := by omega
  have lr1 : L.gr < w.heap.size + 1 := by omega
  have lp2 : p < w.heap.size + 1 + 1 := by omega
  have lr2 : L.gr < w.heap.size + 1 + 1 := by omega
  have np1 : p ≠ w.heap.size + 1 := by omega
  have nr1 : L.gr ≠ w.heap.size + 1 := by omega
  have np2 : p ≠ w.heap.size + 1 + 1 := by omega
  have nr2 : L.gr ≠ w.heap.size + 1 + 1 := by omega
  have np1' := np1.symm
  have nr1' := nr1.symm
  have np2' := np2.symm
  have nr2' := nr2.symm
  have np3 : p ≠ w.heap.size + 2 := by omega
  have nr3 : L.gr ≠ w.heap.size + 2 := by omega
  have np3p : w.heap.size + 1 + 1 ≠ p := by omega
  have nr3p : w.heap.size + 1 + 1 ≠ L.gr := by omega
  have nx3p : w.heap.size + 1 + 1 ≠ w.heap.size := by omega
  have np3' := np3.symm
  have nr3' := nr3.symm
  have hr := S.regs
  have hrl : s.regs.length ≤ 4096 := by have := G.r2; omega
  have ha0 := hO.a.1
  have ha1 : a < s.regs.length := by rw [hr]; exact hO.a.2
  have hb0 := hO.b.1
  have hb1 : b < s.regs.length := by rw [hr]; exact hO.b.2
  have hc0 := hO.c.1
  have hc1 : c < s.regs.length := by rw [hr]; exact hO.c.2
  have hd0 := hO.d.1
  have hd1 : d < s.regs.length := by rw [hr]; exact hO.d.2
  have c6 := P6 Q.e
  have ra0 := reg0 Q.e ha0 ha1
  have ra1 := reg1 Q.e ha0 ha1
  have rb0 := reg0 Q.e hb0 hb1
  have rb1 := reg1 Q.e hb0 hb1
  have rc0 := reg0 Q.e hc0 hc1
  have rc1 := reg1 Q.e hc0 hc1
  have rd0 := reg0 Q.e hd0 hd1
  have rd1 := reg1 Q.e hd0 hd1
  have f0 := Q.e.regs.frozen (d.toNat * 2)
  have f1 := Q.e.regs.frozen (d.toNat * 2 + 1)
  have hgi : inR g U.regs := hO.g.resolve_left hg
  have hg0 := hgi.1
  have hgl : g < s.regs.length := by rw [hr]; exact hgi.2
  have hgn : (g == -1) = false := by simpa using hg
  have rg0 := reg0 Q.e hg0 hgl
  have rg1 := reg1 Q.e hg0 hgl
  have hgs : ∃ g1 g2, g1 = (s.reg g).1 ∧ g2 = (s.reg g).2 := ⟨_, _, rfl, rfl⟩
  obtain ⟨g1, g2, eg1, eg2⟩ := hgs
  rw [← eg1] at rg0 hg1
  rw [← eg2] at rg1 hg2
  clear eg1 eg2 hgi
  subst hg2
  have hg1' : (g1 == 0) = false := by simpa using hg1
  have HD := Lib.hid (do_is ⟨k, d, a, b, c, n, g⟩ (s.reg a) (s.reg b) (s.reg c) _ _ _ _ hv ht he)
  have hrs : ∃ a1 a2 b1 b2 c1 c2, (s.reg a).1 = a1 ∧ (s.reg a).2 = a2 ∧ (s.reg b).1 = b1 ∧ (s.reg b).2 = b2 ∧ (s.reg c).1 = c1 ∧ (s.reg c).2 = c2 := ⟨_, _, _, _, _, _, rfl, rfl, rfl, rfl, rfl, rfl⟩
  obtain ⟨a1, a2, b1, b2, c1, c2, ea1, ea2, eb1, eb2, ec1, ec2⟩ := hrs
  rw [ea1] at ra0
  rw [ea2] at ra1
  rw [eb1] at rb0
  rw [eb2] at rb1
  rw [ec1] at rc0
  rw [ec2] at rc1
  have eA : s.reg a = (a1, a2) := by rw [← ea1, ← ea2]
  have eB : s.reg b = (b1, b2) := by rw [← eb1, ← eb2]
  have eC : s.reg c = (c1, c2) := by rw [← ec1, ← ec2]
  rw [eA, eB, eC] at HD
  clear ea1 ea2 eb1 eb2 ec1 ec2 eA eB eC hv ht he
  have HQ := Lib.hid Q
  have HV := Lib.hid V
  have HS := Lib.hid S
  have HO := Lib.hid hO
  clear Q hO S V hr
  go_enter Tryd.func78, Tryd.ntmps78
  go_wp2
  go_region
  go_wp2
  go_region_held3 (fun w' => w'.cell? ⟨w.heap.size, 0, none⟩ = some (.int .i64 k) ∧ w'.cell? ⟨w.heap.size, 1, none⟩ = some (.int .i64 d) ∧ w'.cell? ⟨w.heap.size, 2, none⟩ = some (.int .i64 a) ∧ w'.cell? ⟨w.heap.size, 3, none⟩ = some (.int .i64 b) ∧ w'.cell? ⟨w.heap.size, 4, none⟩ = some (.int .i64 c) ∧ w'.cell? ⟨w.heap.size, 5, none⟩ = some (.int .i64 n) ∧ w'.cell? ⟨w.heap.size, 6, none⟩ = some (.int .i64 g) ∧ w'.cell? ⟨p, 6, none⟩ = some (.slice (some ⟨L.gr, 0, none⟩) s.regs.length s.regs.length) ∧ w'.cell? ⟨L.gr, a.toNat * 2, none⟩ = some (.int .i64 a1) ∧ w'.cell? ⟨L.gr, a.toNat * 2 + 1, none⟩ = some (.int .i64 a2) ∧ w'.cell? ⟨L.gr, b.toNat * 2, none⟩ = some (.int .i64 b1) ∧ w'.cell? ⟨L.gr, b.toNat * 2 + 1, none⟩ = some (.int .i64 b2) ∧ w'.cell? ⟨L.gr, c.toNat * 2, none⟩ = some (.int .i64 c1) ∧ w'.cell? ⟨L.gr, c.toNat * 2 + 1, none⟩ = some (.int .i64 c2)) (first | exact ⟨k0, k1, k2, k3, k4, k5, k6, k7, k8, k9, k10, k11, k12, k13⟩ | exact ⟨keepS nx3p k0, keepS nx3p k1, keepS nx3p k2, keepS nx3p k3, keepS nx3p k4, keepS nx3p k5, keepS nx3p k6, keepS np3p k7, keepS nr3p k8, keepS nr3p k9, keepS nr3p k10, keepS nr3p k11, keepS nr3p k12, keepS nr3p k13⟩ | exact ⟨keepA k0, keepA k1, keepA k2, keepA k3, keepA k4, keepA k5, keepA k6, keepA k7, keepA k8, keepA k9, keepA k10, keepA k11, keepA k12, keepA k13⟩ | (go_keep; done) | (refine ⟨?_, ?_, ?_, ?_, ?_, ?_, ?_, keepB (w := w) ?_ lp c6, keepB (w := w) ?_ lr ra0, keepB (w := w) ?_ lr ra1, keepB (w := w) ?_ lr rb0, keepB (w := w) ?_ lr rb1, keepB (w := w) ?_ lr rc0, keepB (w := w) ?_ lr rc1⟩ <;> first | (simp; done) | (go_keep; done) | ((repeat' (first | exact Below.refl _ _ | with_reducible refine Below.drew ?_ | with_reducible refine drewN_below ?_ _ | with_reducible refine Below.alloc ?_ ?_ _ | (simp; done) | (simp; omega))))))
    (first | (obtain ⟨s0, s1, s2, s3, s4, s5, s6, s7, s8, s9, s10, s11, s12, s13⟩ := ‹_ ∧ _›; go_at_call 100; refine (HD.out _).mono ?_; rintro e w1 ⟨rfl, hb⟩; have k0 := keepB hb (by first | (simp only [World.size_alloc, World.size_drew]; omega) | (simp; omega) | simp) s0; have k1 := keepB hb (by first | (simp only [World.size_alloc, World.size_drew]; omega) | (simp; omega) | simp) s1; have k2 := keepB hb (by first | (simp only [World.size_alloc, World.size_drew]; omega) | (simp; omega) | simp) s2; have k3 := keepB hb (by first | (simp only [World.size_alloc, World.size_drew]; omega) | (simp; omega) | simp) s3; have k4 := keepB hb (by first | (simp only [World.size_alloc, World.size_drew]; omega) | (simp; omega) | simp) s4; have k5 := keepB hb (by first | (simp only [World.size_alloc, World.size_drew]; omega) | (simp; omega) | simp) s5; have k6 := keepB hb (by first | (simp only [World.size_alloc, World.size_drew]; omega) | (simp; omega) | simp) s6; have k7 := keepB hb (by first | (simp only [World.size_alloc, World.size_drew]; omega) | (simp; omega) | simp) s7; have k8 := keepB hb (by first | (simp only [World.size_alloc, World.size_drew]; omega) | (simp; omega) | simp) s8; have k9 := keepB hb (by first | (simp only [World.size_alloc, World.size_drew]; omega) | (simp; omega) | simp) s9; have k10 := keepB hb (by first | (simp only [World.size_alloc, World.size_drew]; omega) | (simp; omega) | simp) s10; have k11 := keepB hb (by first | (simp only [World.size_alloc, World.size_drew]; omega) | (simp; omega) | simp) s11; have k12 := keepB hb (by first | (simp only [World.size_alloc, World.size_drew]; omega) | (simp; omega) | simp) s12; have k13 := keepB hb (by first | (simp only [World.size_alloc, World.size_drew]; omega) | (simp; omega) | simp) s13; (try (have z0 : w1.cell? ⟨w.heap.size + 1 + 1, 0, none⟩ = some (.int .i64 0) := keepB hb ?za ?zb; (case za => (simp only [World.size_alloc, World.size_drew]; omega)); (case zb => simp [go_sem]))); (try (have y0 : w1.frozen? ⟨w.heap.size + 1 + 1, 0, none⟩ = false := (hb.frozen (p := ⟨w.heap.size + 1 + 1, 0, none⟩) ?za).trans ?zb; (case za => (simp only [World.size_alloc, World.size_drew]; omega)); (case zb => simp [go_sem]))); (try (have z1 : w1.cell? ⟨w.heap.size + 1 + 1, 1, none⟩ = some (.int .i64 0) := keepB hb ?za ?zb; (case za => (simp only [World.size_alloc, World.size_drew]; omega)); (case zb => simp [go_sem]))); (try (have y1 : w1.frozen? ⟨w.heap.size + 1 + 1, 1, none⟩ = false := (hb.frozen (p := ⟨w.heap.size + 1 + 1, 1, none⟩) ?za).trans ?zb; (case za => (simp only [World.size_alloc, World.size_drew]; omega)); (case zb => simp [go_sem]))); have hz1 := hb.size; simp only [World.size_alloc, World.size_drew] at hz1; (have bw1 : Below w.heap.size w w1 := Below.trans ?za (hb.mono ?zb); (case za => go_grown); (case zb => (simp only [World.size_alloc, World.size_drew]; omega))); have q1 : w1.heap.size ≠ p := (by omega); have q2 : w1.heap.size ≠ L.gr := (by omega); have q3 : w1.heap.size ≠ w.heap.size := (by omega); have q5 := q3.symm; have q6 := q1.symm; have q7 := q2.symm; have q8 : L.gr < w1.heap.size := (by omega); clear s0 s1 s2 s3 s4 s5 s6 s7 s8 s9 s10 s11 s12 s13))
  all_goals
    go_wp2
    go_ret2
    refine ⟨rfl, (HQ.out.below ?_).x⟩
    (repeat' (first | exact bw1 | (with_reducible refine drewN_below ?_ _) | (with_reducible refine Below.drew ?_) | (with_reducible refine Below.alloc ?_ ?_ _) | (with_reducible refine Below.setCell ?_ ?_ _) | omega | (simp only [World.size_alloc, World.size_drew]; omega)))

set_option maxRecDepth 100000 in
set_option maxHeartbeats 4000000 in
theorem rdo_some_act (S : StGood U s) (G : UnGood U) (E : EngX layP F w0 M0 w p U s) (V : Env w) (k d a b c n g : Int) (hO : OpGood U ⟨k, d, a, b, c, n, g⟩) (hg : g ≠ -1) (hg2 : (s.reg g).2 = 0) (hg1 : (s.reg g).1 ≠ 0) (hk : known k = false) :
    Calls Tryd.prog 78 #[.pointer (some ⟨p, 0, none⟩), .agg #[.int .i64 k, .int .i64 d, .int .i64 a, .int .i64 b, .int .i64 c, .int .i64 n, .int .i64 g]] w (ActR F w0 M0 p U (s.act ⟨k, d, a, b, c, n, g⟩)) := by
  obtain ⟨L, Q⟩ := E
  have np : p ≠ w.heap.size := Nat.ne_of_lt Q.e.blk.lt
  have nr : L.gr ≠ w.heap.size := Nat.ne_of_lt Q.e.regs.lt
  have np' := np.symm
  have nr' := nr.symm
  have lp : p < w.heap.size := Q.e.blk.lt
  have lr : L.gr < w.heap.size := Q.e.regs.lt
  have lp1 : p < w.heap.size + 1 := by omega
  have lr1 : L.gr < w.heap.size + 1 := by omega
  have lp2 : p < w.heap.size + 1 + 1 := by omega
  have lr2 : L.gr < w.heap.size + 1 + 1 := by omega
  have np1 : p ≠ w.heap.size + 1 := by omega
  have nr1 : L.gr ≠ w.heap.size + 1 := by omega
  have np2 : p ≠ w.heap.size + 1 + 1 := by omega
  have nr2 : L.gr ≠ w.heap.size + 1 + 1 := by omega
  have np1' := np1.symm
  have nr1' := nr1.symm
  have np2' := np2.symm
  have nr2' := nr2.symm
  have np3 : p ≠ w.heap.size + 2 := by omega
  have nr3 : L.gr ≠ w.heap.size + 2 := by omega
  have np3p : w.heap.size + 1 + 1 ≠ p := by omega
  have nr3p : w.heap.size + 1 + 1 ≠ L.gr := by omega
  have nx3p : w.heap.size + 1 + 1 ≠ w.heap.size := by omega
  have np3' := np3.symm
  have nr3' := nr3.symm
  have hr := S.regs
  have hrl : s.regs.length ≤ 4096 := by have := G.r2; omega
  have ha0 := hO.a.1
  have ha1 : a < s.regs.length := by rw [hr]; exact hO.a.2
  have hb0 := hO.b.1
  have hb1 : b < s.regs.length := by rw [hr]; exact hO.b.2
  have hc0 := hO.c.1
  have hc1 : c < s.regs.length := by rw [hr]; exact hO.c.2
  have hd0 := hO.d.1
  have hd1 : d < s.regs.length := by rw [hr]; exact hO.d.2
  have c6 := P6 Q.e
  have ra0 := reg0 Q.e ha0 ha1
  have ra1 := reg1 Q.e ha0 ha1
  have rb0 := reg0 Q.e hb0 hb1
  have rb1 := reg1 Q.e hb0 hb1
  have rc0 := reg0 Q.e hc0 hc1
  have rc1 := reg1 Q.e hc0 hc1
  have rd0 := reg0 Q.e hd0 hd1
  have rd1 := reg1 Q.e hd0 hd1
  have f0 := Q.e.regs.frozen (d.toNat * 2)
  have f1 := Q.e.regs.frozen (d.toNat * 2 + 1)
  have hgi : inR g U.regs := hO.g.resolve_left hg
  have hg0 := hgi.1
  have hgl : g < s.regs.length := by rw [hr]; exact hgi.2
  have hgn : (g == -1) = false := by simpa using hg
  have rg0 := reg0 Q.e hg0 hgl
  have rg1 := reg1 Q.e hg0 hgl
  have hgs : ∃ g1 g2, g1 = (s.reg g).1 ∧ g2 = (s.reg g).2 := ⟨_, _, rfl, rfl⟩
  obtain ⟨g1, g2, eg1, eg2⟩ := hgs
  rw [← eg1] at rg0 hg1
  rw [← eg2] at rg1 hg2
  clear eg1 eg2 hgi
  subst hg2
  have hg1' : (g1 == 0) = false := by simpa using hg1
  have hv : doV k n (s.reg a) (s.reg b) (s.reg c) = (0, 0) := by simp [doV, hk]
  have ht : doT k (s.reg a) (s.reg b) (s.reg c) = 0 := by simp [doT, hk]
  have he : doE k (s.reg a) (s.reg b) (s.reg c) = 2 := by simp [doE, hk]
  have HD := Lib.hid (do_is ⟨k, d, a, b, c, n, g⟩ (s.reg a) (s.reg b) (s.reg c) _ _ _ _ hv ht he)
  have hrs : ∃ a1 a2 b1 b2 c1 c2, (s.reg a).1 = a1 ∧ (s.reg a).2 = a2 ∧ (s.reg b).1 = b1 ∧ (s.reg b).2 = b2 ∧ (s.reg c).1 = c1 ∧ (s.reg c).2 = c2 := ⟨_, _, _, _, _, _, rfl, rfl, rfl, rfl, rfl, rfl⟩
  obtain ⟨a1, a2, b1, b2, c1, c2, ea1, ea2, eb1, eb2, ec1, ec2⟩ := hrs
  rw [ea1] at ra0
  rw [ea2] at ra1
  rw [eb1] at rb0
  rw [eb2] at rb1
  rw [ec1] at rc0
  rw [ec2] at rc1
  have eA : s.reg a = (a1, a2) := by rw [← ea1, ← ea2]
  have eB : s.reg b = (b1, b2) := by rw [← eb1, ← eb2]
  have eC : s.reg c = (c1, c2) := by rw [← ec1, ← ec2]
  rw [eA, eB, eC] at HD
  clear ea1 ea2 eb1 eb2 ec1 ec2 eA eB eC hv ht he
  have HQ := Lib.hid Q
  have HV := Lib.hid V
  have HS := Lib.hid S
  have HO := Lib.hid hO
  clear Q hO S V hr
  go_enter Tryd.func78, Tryd.ntmps78
  go_wp2
  go_region
  go_wp2
  go_region_held3 (fun w' => w'.cell? ⟨w.heap.size, 0, none⟩ = some (.int .i64 k) ∧ w'.cell? ⟨w.heap.size, 1, none⟩ = some (.int .i64 d) ∧ w'.cell? ⟨w.heap.size, 2, none⟩ = some (.int .i64 a) ∧ w'.cell? ⟨w.heap.size, 3, none⟩ = some (.int .i64 b) ∧ w'.cell? ⟨w.heap.size, 4, none⟩ = some (.int .i64 c) ∧ w'.cell? ⟨w.heap.size, 5, none⟩ = some (.int .i64 n) ∧ w'.cell? ⟨w.heap.size, 6, none⟩ = some (.int .i64 g) ∧ w'.cell? ⟨p, 6, none⟩ = some (.slice (some ⟨L.gr, 0, none⟩) s.regs.length s.regs.length) ∧ w'.cell? ⟨L.gr, a.toNat * 2, none⟩ = some (.int .i64 a1) ∧ w'.cell? ⟨L.gr, a.toNat * 2 + 1, none⟩ = some (.int .i64 a2) ∧ w'.cell? ⟨L.gr, b.toNat * 2, none⟩ = some (.int .i64 b1) ∧ w'.cell? ⟨L.gr, b.toNat * 2 + 1, none⟩ = some (.int .i64 b2) ∧ w'.cell? ⟨L.gr, c.toNat * 2, none⟩ = some (.int .i64 c1) ∧ w'.cell? ⟨L.gr, c.toNat * 2 + 1, none⟩ = some (.int .i64 c2)) (first | exact ⟨k0, k1, k2, k3, k4, k5, k6, k7, k8, k9, k10, k11, k12, k13⟩ | exact ⟨keepS nx3p k0, keepS nx3p k1, keepS nx3p k2, keepS nx3p k3, keepS nx3p k4, keepS nx3p k5, keepS nx3p k6, keepS np3p k7, keepS nr3p k8, keepS nr3p k9, keepS nr3p k10, keepS nr3p k11, keepS nr3p k12, keepS nr3p k13⟩ | exact ⟨keepA k0, keepA k1, keepA k2, keepA k3, keepA k4, keepA k5, keepA k6, keepA k7, keepA k8, keepA k9, keepA k10, keepA k11, keepA k12, keepA k13⟩ | (go_keep; done) | (refine ⟨?_, ?_, ?_, ?_, ?_, ?_, ?_, keepB (w := w) ?_ lp c6, keepB (w := w) ?_ lr ra0, keepB (w := w) ?_ lr ra1, keepB (w := w) ?_ lr rb0, keepB (w := w) ?_ lr rb1, keepB (w := w) ?_ lr rc0, keepB (w := w) ?_ lr rc1⟩ <;> first | (simp; done) | (go_keep; done) | ((repeat' (first | exact Below.refl _ _ | with_reducible refine Below.drew ?_ | with_reducible refine drewN_below ?_ _ | with_reducible refine Below.alloc ?_ ?_ _ | (simp; done) | (simp; omega))))))
    (first | (obtain ⟨s0, s1, s2, s3, s4, s5, s6, s7, s8, s9, s10, s11, s12, s13⟩ := ‹_ ∧ _›; go_at_call 100; refine (HD.out _).mono ?_; rintro e w1 ⟨rfl, hb⟩; have k0 := keepB hb (by first | (simp only [World.size_alloc, World.size_drew]; omega) | (simp; omega) | simp) s0; have k1 := keepB hb (by first | (simp only [World.size_alloc, World.size_drew]; omega) | (simp; omega) | simp) s1; have k2 := keepB hb (by first | (simp only [World.size_alloc, World.size_drew]; omega) | (simp; omega) | simp) s2; have k3 := keepB hb (by first | (simp only [World.size_alloc, World.size_drew]; omega) | (simp; omega) | simp) s3; have k4 := keepB hb (by first | (simp only [World.size_alloc, World.size_drew]; omega) | (simp; omega) | simp) s4; have k5 := keepB hb (by first | (simp only [World.size_alloc, World.size_drew]; omega) | (simp; omega) | simp) s5; have k6 := keepB hb (by first | (simp only [World.size_alloc, World.size_drew]; omega) | (simp; omega) | simp) s6; have k7 := keepB hb (by first | (simp only [World.size_alloc, World.size_drew]; omega) | (simp; omega) | simp) s7; have k8 := keepB hb (by first | (simp only [World.size_alloc, World.size_drew]; omega) | (simp; omega) | simp) s8; have k9 := keepB hb (by first | (simp only [World.size_alloc, World.size_drew]; omega) | (simp; omega) | simp) s9; have k10 := keepB hb (by first | (simp only [World.size_alloc, World.size_drew]; omega) | (simp; omega) | simp) s10; have k11 := keepB hb (by first | (simp only [World.size_alloc, World.size_drew]; omega) | (simp; omega) | simp) s11; have k12 := keepB hb (by first | (simp only [World.size_alloc, World.size_drew]; omega) | (simp; omega) | simp) s12; have k13 := keepB hb (by first | (simp only [World.size_alloc, World.size_drew]; omega) | (simp; omega) | simp) s13; (try (have z0 : w1.cell? ⟨w.heap.size + 1 + 1, 0, none⟩ = some (.int .i64 0) := keepB hb ?za ?zb; (case za => (simp only [World.size_alloc, World.size_drew]; omega)); (case zb => simp [go_sem]))); (try (have y0 : w1.frozen? ⟨w.heap.size + 1 + 1, 0, none⟩ = false := (hb.frozen (p := ⟨w.heap.size + 1 + 1, 0, none⟩) ?za).trans ?zb; (case za => (simp only [World.size_alloc, World.size_drew]; omega)); (case zb => simp [go_sem]))); (try (have z1 : w1.cell? ⟨w.heap.size + 1 + 1, 1, none⟩ = some (.int .i64 0) := keepB hb ?za ?zb; (case za => (simp only [World.size_alloc, World.size_drew]; omega)); (case zb => simp [go_sem]))); (try (have y1 : w1.frozen? ⟨w.heap.size + 1 + 1, 1, none⟩ = false := (hb.frozen (p := ⟨w.heap.size + 1 + 1, 1, none⟩) ?za).trans ?zb; (case za => (simp only [World.size_alloc, World.size_drew]; omega)); (case zb => simp [go_sem]))); have hz1 := hb.size; simp only [World.size_alloc, World.size_drew] at hz1; (have bw1 : Below w.heap.size w w1 := Below.trans ?za (hb.mono ?zb); (case za => go_grown); (case zb => (simp only [World.size_alloc, World.size_drew]; omega))); have q1 : w1.heap.size ≠ p := (by omega); have q2 : w1.heap.size ≠ L.gr := (by omega); have q3 : w1.heap.size ≠ w.heap.size := (by omega); have q5 := q3.symm; have q6 := q1.symm; have q7 := q2.symm; have q8 : L.gr < w1.heap.size := (by omega); clear s0 s1 s2 s3 s4 s5 s6 s7 s8 s9 s10 s11 s12 s13))
  all_goals
    go_wp2_with (go_at_call 101; refine (act_any HS.out G (HQ.out.below ?b1).x (HV.out.below ?b1) ⟨k, d, a, b, c, n, g⟩ HO.out hk).mono ?_; (case b1 => (repeat' (first | exact bw1 | (with_reducible refine drewN_below ?_ _) | (with_reducible refine Below.drew ?_) | (with_reducible refine Below.alloc ?_ ?_ _) | (with_reducible refine Below.setCell ?_ ?_ _) | omega | (simp only [World.size_alloc, World.size_drew]; omega)))); rintro e w2 ⟨rfl, E2⟩)
    go_ret2
    exact ⟨rfl, E2⟩

set_option maxRecDepth 100000 in
set_option maxHeartbeats 4000000 in
theorem rdo_bad (S : StGood U s) (G : UnGood U) (E : EngX layP F w0 M0 w p U s) (V : Env w) (k d a b c n g : Int) (hO : OpGood U ⟨k, d, a, b, c, n, g⟩) (hg : g ≠ -1) (t : Int) (hg2 : (s.reg g).2 = t) (ht0 : ¬ t = 0) :
    Calls Tryd.prog 78 #[.pointer (some ⟨p, 0, none⟩), .agg #[.int .i64 k, .int .i64 d, .int .i64 a, .int .i64 b, .int .i64 c, .int .i64 n, .int .i64 g]] w (ActR F w0 M0 p U (s, t, false)) := by
  obtain ⟨L, Q⟩ := E
  have np : p ≠ w.heap.size := Nat.ne_of_lt Q.e.blk.lt
  have nr : L.gr ≠ w.heap.size := Nat.ne_of_lt Q.e.regs.lt
  have np' := np.symm
  have nr' := nr.symm
  have lp : p < w.heap.size := Q.e.blk.lt
  have lr : L.gr < w.heap.size := Q.e.regs.lt
  have lp1 : p < w.heap.size + 1 := by omega
  have lr1 : L.gr < w.heap.size + 1 := by omega
  have lp2 : p < w.heap.size + 1 + 1 := by omega
  have lr2 : L.gr < w.heap.size + 1 + 1 := by omega
  have np1 : p ≠ w.heap.size + 1 := by omega
  have nr1 : L.gr ≠ w.heap.size + 1 := by omega
  have np2 : p ≠ w.heap.size + 1 + 1 := by omega
  have nr2 : L.gr ≠ w.heap.size + 1 + 1 := by omega
  have np1' := np1.symm
  have nr1' := nr1.symm
  have np2' := np2.symm
  have nr2' := nr2.symm
  have np3 : p ≠ w.heap.size + 2 := by omega
  have nr3 : L.gr ≠ w.heap.size + 2 := by omega
  have np3p : w.heap.size + 1 + 1 ≠ p := by omega
  have nr3p : w.heap.size + 1 + 1 ≠ L.gr := by omega
  have nx3p : w.heap.size + 1 + 1 ≠ w.heap.size := by omega
  have np3' := np3.symm
  have nr3' := nr3.symm
  have hr := S.regs
  have hrl : s.regs.length ≤ 4096 := by have := G.r2; omega
  have ha0 := hO.a.1
  have ha1 : a < s.regs.length := by rw [hr]; exact hO.a.2
  have hb0 := hO.b.1
  have hb1 : b < s.regs.length := by rw [hr]; exact hO.b.2
  have hc0 := hO.c.1
  have hc1 : c < s.regs.length := by rw [hr]; exact hO.c.2
  have hd0 := hO.d.1
  have hd1 : d < s.regs.length := by rw [hr]; exact hO.d.2
  have c6 := P6 Q.e
  have ra0 := reg0 Q.e ha0 ha1
  have ra1 := reg1 Q.e ha0 ha1
  have rb0 := reg0 Q.e hb0 hb1
  have rb1 := reg1 Q.e hb0 hb1
  have rc0 := reg0 Q.e hc0 hc1
  have rc1 := reg1 Q.e hc0 hc1
  have rd0 := reg0 Q.e hd0 hd1
  have rd1 := reg1 Q.e hd0 hd1
  have f0 := Q.e.regs.frozen (d.toNat * 2)
  have f1 := Q.e.regs.frozen (d.toNat * 2 + 1)
  have hgi : inR g U.regs := hO.g.resolve_left hg
  have hg0 := hgi.1
  have hgl : g < s.regs.length := by rw [hr]; exact hgi.2
  have hgn : (g == -1) = false := by simpa using hg
  have rg0 := reg0 Q.e hg0 hgl
  have rg1 := reg1 Q.e hg0 hgl
  have hgs : ∃ g1 g2, g1 = (s.reg g).1 ∧ g2 = (s.reg g).2 := ⟨_, _, rfl, rfl⟩
  obtain ⟨g1, g2, eg1, eg2⟩ := hgs
  rw [← eg1] at rg0
  rw [← eg2] at rg1 hg2
  clear eg1 eg2 hgi
  subst hg2
  have ht0' : (g2 == 0) = false := by simpa using ht0
  have HQ := Lib.hid Q
  have HV := Lib.hid V
  have HS := Lib.hid S
  have HO := Lib.hid hO
  clear Q hO S V hr
  go_enter Tryd.func78, Tryd.ntmps78
  go_wp2
  go_region
  go_wp2
  go_ret2
  exact ⟨rfl, (HQ.out.below (by go_grown)).x⟩

set_option maxRecDepth 100000 in
set_option maxHeartbeats 4000000 in
theorem rdo_zero (S : StGood U s) (G : UnGood U) (E : EngX layP F w0 M0 w p U s) (V : Env w) (k d a b c n g : Int) (hO : OpGood U ⟨k, d, a, b, c, n, g⟩) (hg : g ≠ -1) (hg2 : (s.reg g).2 = 0) (hg1 : (s.reg g).1 = 0) :
    Calls Tryd.prog 78 #[.pointer (some ⟨p, 0, none⟩), .agg #[.int .i64 k, .int .i64 d, .int .i64 a, .int .i64 b, .int .i64 c, .int .i64 n, .int .i64 g]] w (ActR F w0 M0 p U (s, 0, false)) := by
  obtain ⟨L, Q⟩ := E
  have np : p ≠ w.heap.size := Nat.ne_of_lt Q.e.blk.lt
  have nr : L.gr ≠ w.heap.size := Nat.ne_of_lt Q.e.regs.lt
  have np' := np.symm
  have nr' := nr.symm
  have lp : p < w.heap.size := Q.e.blk.lt
  have lr : L.gr < w.heap.size := Q.e.regs.lt
  have lp1 : p < w.heap.size + 1 := by omega
  have lr1 : L.gr < w.heap.size + 1 := by omega
  have lp2 : p < w.heap.size + 1 + 1 := by omega
  have lr2 : L.gr < w.heap.size + 1 + 1 := by omega
  have np1 : p ≠ w.heap.size + 1 := by omega
  have nr1 : L.gr ≠ w.heap.size + 1 := by omega
  have np2 : p ≠ w.heap.size + 1 + 1 := by omega
  have nr2 : L.gr ≠ w.heap.size + 1 + 1 := by omega
  have np1' := np1.symm
  have nr1' := nr1.symm
  have np2' := np2.symm
  have nr2' := nr2.symm
  have np3 : p ≠ w.heap.size + 2 := by omega
  have nr3 : L.gr ≠ w.heap.size + 2 := by omega
  have np3p : w.heap.size + 1 + 1 ≠ p := by omega
  have nr3p : w.heap.size + 1 + 1 ≠ L.gr := by omega
  have nx3p : w.heap.size + 1 + 1 ≠ w.heap.size := by omega
  have np3' := np3.symm
  have nr3' := nr3.symm
  have hr := S.regs
  have hrl : s.regs.length ≤ 4096 := by have := G.r2; omega
  have ha0 := hO.a.1
  have ha1 : a < s.regs.length := by rw [hr]; exact hO.a.2
  have hb0 := hO.b.1
  have hb1 : b < s.regs.length := by rw [hr]; exact hO.b.2
  have hc0 := hO.c.1
  have hc1 : c < s.regs.length := by rw [hr]; exact hO.c.2
  have hd0 := hO.d.1
  have hd1 : d < s.regs.length := by rw [hr]; exact hO.d.2
  have c6 := P6 Q.e
  have ra0 := reg0 Q.e ha0 ha1
  have ra1 := reg1 Q.e ha0 ha1
  have rb0 := reg0 Q.e hb0 hb1
  have rb1 := reg1 Q.e hb0 hb1
  have rc0 := reg0 Q.e hc0 hc1
  have rc1 := reg1 Q.e hc0 hc1
  have rd0 := reg0 Q.e hd0 hd1
  have rd1 := reg1 Q.e hd0 hd1
  have f0 := Q.e.regs.frozen (d.toNat * 2)
  have f1 := Q.e.regs.frozen (d.toNat * 2 + 1)
  have hgi : inR g U.regs := hO.g.resolve_left hg
  have hg0 := hgi.1
  have hgl : g < s.regs.length := by rw [hr]; exact hgi.2
  have hgn : (g == -1) = false := by simpa using hg
  have rg0 := reg0 Q.e hg0 hgl
  have rg1 := reg1 Q.e hg0 hgl
  have hgs : ∃ g1 g2, g1 = (s.reg g).1 ∧ g2 = (s.reg g).2 := ⟨_, _, rfl, rfl⟩
  obtain ⟨g1, g2, eg1, eg2⟩ := hgs
  rw [← eg1] at rg0 hg1
  rw [← eg2] at rg1 hg2
  clear eg1 eg2 hgi
  subst hg2
  subst hg1
  have HQ := Lib.hid Q
  have HV := Lib.hid V
  have HS := Lib.hid S
  have HO := Lib.hid hO
  clear Q hO S V hr
  go_enter Tryd.func78, Tryd.ntmps78
  go_wp2
  go_region
  go_wp2
  go_ret2
  exact ⟨rfl, (HQ.out.below (by go_grown)).x⟩

end Go.Proofs.YtfkjkdoloamakaaDoor
