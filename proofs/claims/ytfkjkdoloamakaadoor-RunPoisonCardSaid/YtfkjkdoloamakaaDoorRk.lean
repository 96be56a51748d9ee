/- What act of package run does: the state is St.act. -/
import Derived.Test.YtfkjkdoloamakaaDoorMc
import Derived.BigRegion
namespace Go.Proofs.YtfkjkdoloamakaaDoor
open Go.RowKit
set_option linter.unusedVariables false
variable {F : Nat → Prop} {w0 w : World} {M0 : Nat → Prop} {p : Nat} {U : UnS} {s : St}

/-- how act and do end -/
def ActR (F : Nat → Prop) (w0 : World) (M0 : Nat → Prop) (p : Nat) (U : UnS) (r : St × Int × Bool) (e : Ending) (w' : World) : Prop :=
  e = .returned (.tuple #[.int .i64 r.2.1, .bool r.2.2]) ∧ EngX layP F w0 M0 w' p U r.1
theorem EngX.env (E : EngX layP F w0 M0 w p U s) (V : Env w0) (hM : ¬ M0 0) : Env w := by
  obtain ⟨L, Q⟩ := E
  exact V.fr Q.f hM

set_option maxRecDepth 100000 in
set_option maxHeartbeats 4000000 in
theorem act_fetch (S : StGood U s) (G : UnGood U) (E : EngX layP F w0 M0 w p U s) (V : Env w) (d a b c n g : Int) (hO : OpGood U ⟨18, d, a, b, c, n, g⟩)  :
    Calls Tryd.prog 101 #[.pointer (some ⟨p, 0, none⟩), .agg #[.int .i64 18, .int .i64 d, .int .i64 a, .int .i64 b, .int .i64 c, .int .i64 n, .int .i64 g]] w (ActR F w0 M0 p U ((s.put d (s.kept.getD n.toNat (0, 0)), 0, false))) := by
  obtain ⟨L, Q⟩ := E
  have np : p ≠ w.heap.size := Nat.ne_of_lt Q.e.blk.lt
  have nr : L.gr ≠ w.heap.size := Nat.ne_of_lt Q.e.regs.lt
  have nc : L.gc ≠ w.heap.size := Nat.ne_of_lt Q.e.kept.lt
  have lp : p < w.heap.size := Q.e.blk.lt
  have lr : L.gr < w.heap.size := Q.e.regs.lt
  have lc : L.gc < w.heap.size := Q.e.kept.lt
  have np' := np.symm
  have nr' := nr.symm
  have nc' := nc.symm
  have hr := S.regs
  have hkl := S.kept
  have hrl : s.regs.length ≤ 4096 := by have := G.r2; omega
  have hkk : s.kept.length ≤ 4096 := by have := G.sp2; omega
  have ha0 := hO.a.1
  have ha1 : a < s.regs.length := by rw [hr]; exact hO.a.2
  have hb0 := hO.b.1
  have hb1 : b < s.regs.length := by rw [hr]; exact hO.b.2
  have hd0 := hO.d.1
  have hd1 : d < s.regs.length := by rw [hr]; exact hO.d.2
  obtain ⟨n0, n1⟩ := hO.cell (.inl rfl)
  simp only at n0 n1
  have n1' : n < s.kept.length := by rw [hkl]; exact n1
  have c6 := P6 Q.e
  have c7 := P7 Q.e
  have k0 := kept0 Q.e n0 n1'
  have k1 := kept1 Q.e n0 n1'
  have r0 := reg0 Q.e hd0 hd1
  have r1 := reg1 Q.e hd0 hd1
  have f0 := Q.e.regs.frozen (d.toNat * 2)
  have f1 := Q.e.regs.frozen (d.toNat * 2 + 1)
  obtain ⟨v0, v1, hv⟩ : ∃ v0 v1, s.kept.getD n.toNat (0, 0) = (v0, v1) := ⟨_, _, rfl⟩
  rw [hv] at k0 k1 ⊢
  have HQ := Lib.hid Q
  clear Q hO hv S G V hr hkl
  go_enter Tryd.func101, Tryd.ntmps101
  go_wp2
  go_region
  go_wp2
  go_ret2
  exact ⟨rfl, (((HQ.out.newReg okP d.toNat (v0, v1)).alloc _).drewN 1).x⟩

set_option maxRecDepth 100000 in
set_option maxHeartbeats 4000000 in
theorem act_keep (S : StGood U s) (G : UnGood U) (E : EngX layP F w0 M0 w p U s) (V : Env w) (d a b c n g : Int) (hO : OpGood U ⟨19, d, a, b, c, n, g⟩)  :
    Calls Tryd.prog 101 #[.pointer (some ⟨p, 0, none⟩), .agg #[.int .i64 19, .int .i64 d, .int .i64 a, .int .i64 b, .int .i64 c, .int .i64 n, .int .i64 g]] w (ActR F w0 M0 p U (({ s with kept := s.kept.set n.toNat (s.reg a) }, 0, false))) := by
  obtain ⟨L, Q⟩ := E
  have np : p ≠ w.heap.size := Nat.ne_of_lt Q.e.blk.lt
  have nr : L.gr ≠ w.heap.size := Nat.ne_of_lt Q.e.regs.lt
  have nc : L.gc ≠ w.heap.size := Nat.ne_of_lt Q.e.kept.lt
  have lp : p < w.heap.size := Q.e.blk.lt
  have lr : L.gr < w.heap.size := Q.e.regs.lt
  have lc : L.gc < w.heap.size := Q.e.kept.lt
  have np' := np.symm
  have nr' := nr.symm
  have nc' := nc.symm
  have hr := S.regs
  have hkl := S.kept
  have hrl : s.regs.length ≤ 4096 := by have := G.r2; omega
  have hkk : s.kept.length ≤ 4096 := by have := G.sp2; omega
  have ha0 := hO.a.1
  have ha1 : a < s.regs.length := by rw [hr]; exact hO.a.2
  have hb0 := hO.b.1
  have hb1 : b < s.regs.length := by rw [hr]; exact hO.b.2
  have hd0 := hO.d.1
  have hd1 : d < s.regs.length := by rw [hr]; exact hO.d.2
  obtain ⟨n0, n1⟩ := hO.cell (.inr rfl)
  simp only at n0 n1
  have n1' : n < s.kept.length := by rw [hkl]; exact n1
  have c6 := P6 Q.e
  have c7 := P7 Q.e
  have k0 := kept0 Q.e n0 n1'
  have k1 := kept1 Q.e n0 n1'
  have r0 := reg0 Q.e ha0 ha1
  have r1 := reg1 Q.e ha0 ha1
  have f0 := Q.e.kept.frozen (n.toNat * 2)
  have f1 := Q.e.kept.frozen (n.toNat * 2 + 1)
  obtain ⟨v0, v1, hv⟩ : ∃ v0 v1, s.reg a = (v0, v1) := ⟨_, _, rfl⟩
  rw [hv] at r0 r1 ⊢
  have HQ := Lib.hid Q
  clear Q hO hv S G V hr hkl
  go_enter Tryd.func101, Tryd.ntmps101
  go_wp2
  go_region
  go_wp2
  go_ret2
  exact ⟨rfl, (((HQ.out.newKept okP n.toNat (v0, v1)).alloc _).drewN 1).x⟩

set_option maxRecDepth 100000 in
set_option maxHeartbeats 4000000 in
theorem act_load_trap (S : StGood U s) (G : UnGood U) (E : EngX layP F w0 M0 w p U s) (V : Env w) (d a b c n g : Int) (hO : OpGood U ⟨16, d, a, b, c, n, g⟩) (t : Int) (ht : elemT s ⟨16, d, a, b, c, n, g⟩ = t) (ht0 : ¬ t = 0) :
    Calls Tryd.prog 101 #[.pointer (some ⟨p, 0, none⟩), .agg #[.int .i64 16, .int .i64 d, .int .i64 a, .int .i64 b, .int .i64 c, .int .i64 n, .int .i64 g]] w (ActR F w0 M0 p U ((s, t, false))) := by
  obtain ⟨L, Q⟩ := E
  have np : p ≠ w.heap.size := Nat.ne_of_lt Q.e.blk.lt
  have nr : L.gr ≠ w.heap.size := Nat.ne_of_lt Q.e.regs.lt
  have nc : L.gc ≠ w.heap.size := Nat.ne_of_lt Q.e.kept.lt
  have lp : p < w.heap.size := Q.e.blk.lt
  have lr : L.gr < w.heap.size := Q.e.regs.lt
  have lc : L.gc < w.heap.size := Q.e.kept.lt
  have np' := np.symm
  have nr' := nr.symm
  have nc' := nc.symm
  have hr := S.regs
  have hkl := S.kept
  have hrl : s.regs.length ≤ 4096 := by have := G.r2; omega
  have hkk : s.kept.length ≤ 4096 := by have := G.sp2; omega
  have ha0 := hO.a.1
  have ha1 : a < s.regs.length := by rw [hr]; exact hO.a.2
  have hb0 := hO.b.1
  have hb1 : b < s.regs.length := by rw [hr]; exact hO.b.2
  have hd0 := hO.d.1
  have hd1 : d < s.regs.length := by rw [hr]; exact hO.d.2
  obtain ⟨n0, n1⟩ := hO.arr (by simp)
  simp only at n0 n1
  have hn1 : n < s.arrs.length := by rw [S.arrs]; exact n1
  have HQ := Lib.hid Q
  have hel := fun (w1 : World) (E1 : Eng layP F w1 p U s L) (V1 : Env w1) => element_any S G E1 ⟨16, d, a, b, c, n, g⟩ (by simp) hO V1 _ ht
  obtain ⟨gi, hgi⟩ : ∃ gi, gi = L.ga.getD n.toNat 0 := ⟨_, rfl⟩
  rw [← hgi] at hel
  have HGI := Lib.hid hgi
  clear hgi
  obtain ⟨ev, hev⟩ : ∃ ev, ev = (s.arr n).getD (s.reg a).1.toNat 0 := ⟨_, rfl⟩
  have HEV := Lib.hid hev
  clear hev
  have HEL := Lib.hid hel
  have HV := Lib.hid V
  have HS := Lib.hid S
  clear Q hO S G V hel hr hkl
  go_enter Tryd.func101, Tryd.ntmps101
  go_wp2_with (go_at_call 119; refine (HEL.out _ (HQ.out.alloc _).e (HV.out.below ((Below.refl _ _).alloc (Nat.le_refl _) _))).mono ?_; rintro e w1 ⟨rfl, hb⟩; (rw [if_neg ht0]); have Q1 := HQ.out.below (bel_box hb); have c6 := P6 Q1.e; have rd0 := reg0 Q1.e hd0 hd1; have rd1 := reg1 Q1.e hd0 hd1; have rb0 := reg0 Q1.e hb0 hb1; have f0 := Q1.e.regs.frozen (d.toNat * 2); have f1 := Q1.e.regs.frozen (d.toNat * 2 + 1); have xc0 := cell_box hb 0 (.int .i64 16) rfl; have xc1 := cell_box hb 1 (.int .i64 d) rfl; have xc3 := cell_box hb 3 (.int .i64 b) rfl; skip; have HQ1 := Lib.hid Q1; clear Q1 hb)
  go_ret2
  exact ⟨rfl, HQ1.out.x⟩

set_option maxRecDepth 100000 in
set_option maxHeartbeats 4000000 in
theorem act_store_trap (S : StGood U s) (G : UnGood U) (E : EngX layP F w0 M0 w p U s) (V : Env w) (d a b c n g : Int) (hO : OpGood U ⟨17, d, a, b, c, n, g⟩) (t : Int) (ht : elemT s ⟨17, d, a, b, c, n, g⟩ = t) (ht0 : ¬ t = 0) :
    Calls Tryd.prog 101 #[.pointer (some ⟨p, 0, none⟩), .agg #[.int .i64 17, .int .i64 d, .int .i64 a, .int .i64 b, .int .i64 c, .int .i64 n, .int .i64 g]] w (ActR F w0 M0 p U ((s, t, false))) := by
  obtain ⟨L, Q⟩ := E
  have np : p ≠ w.heap.size := Nat.ne_of_lt Q.e.blk.lt
  have nr : L.gr ≠ w.heap.size := Nat.ne_of_lt Q.e.regs.lt
  have nc : L.gc ≠ w.heap.size := Nat.ne_of_lt Q.e.kept.lt
  have lp : p < w.heap.size := Q.e.blk.lt
  have lr : L.gr < w.heap.size := Q.e.regs.lt
  have lc : L.gc < w.heap.size := Q.e.kept.lt
  have np' := np.symm
  have nr' := nr.symm
  have nc' := nc.symm
  have hr := S.regs
  have hkl := S.kept
  have hrl : s.regs.length ≤ 4096 := by have := G.r2; omega
  have hkk : s.kept.length ≤ 4096 := by have := G.sp2; omega
  have ha0 := hO.a.1
  have ha1 : a < s.regs.length := by rw [hr]; exact hO.a.2
  have hb0 := hO.b.1
  have hb1 : b < s.regs.length := by rw [hr]; exact hO.b.2
  have hd0 := hO.d.1
  have hd1 : d < s.regs.length := by rw [hr]; exact hO.d.2
  obtain ⟨n0, n1⟩ := hO.arr (by simp)
  simp only at n0 n1
  have hn1 : n < s.arrs.length := by rw [S.arrs]; exact n1
  have HQ := Lib.hid Q
  have hel := fun (w1 : World) (E1 : Eng layP F w1 p U s L) (V1 : Env w1) => element_any S G E1 ⟨17, d, a, b, c, n, g⟩ (by simp) hO V1 _ ht
  obtain ⟨gi, hgi⟩ : ∃ gi, gi = L.ga.getD n.toNat 0 := ⟨_, rfl⟩
  rw [← hgi] at hel
  have HGI := Lib.hid hgi
  clear hgi
  obtain ⟨ev, hev⟩ : ∃ ev, ev = (s.arr n).getD (s.reg a).1.toNat 0 := ⟨_, rfl⟩
  have HEV := Lib.hid hev
  clear hev
  have HEL := Lib.hid hel
  have HV := Lib.hid V
  have HS := Lib.hid S
  clear Q hO S G V hel hr hkl
  go_enter Tryd.func101, Tryd.ntmps101
  go_wp2_with (go_at_call 119; refine (HEL.out _ (HQ.out.alloc _).e (HV.out.below ((Below.refl _ _).alloc (Nat.le_refl _) _))).mono ?_; rintro e w1 ⟨rfl, hb⟩; (rw [if_neg ht0]); have Q1 := HQ.out.below (bel_box hb); have c6 := P6 Q1.e; have rd0 := reg0 Q1.e hd0 hd1; have rd1 := reg1 Q1.e hd0 hd1; have rb0 := reg0 Q1.e hb0 hb1; have f0 := Q1.e.regs.frozen (d.toNat * 2); have f1 := Q1.e.regs.frozen (d.toNat * 2 + 1); have xc0 := cell_box hb 0 (.int .i64 17) rfl; have xc1 := cell_box hb 1 (.int .i64 d) rfl; have xc3 := cell_box hb 3 (.int .i64 b) rfl; skip; have HQ1 := Lib.hid Q1; clear Q1 hb)
  go_ret2
  exact ⟨rfl, HQ1.out.x⟩

set_option maxRecDepth 100000 in
set_option maxHeartbeats 4000000 in
theorem act_loads_bad (S : StGood U s) (G : UnGood U) (E : EngX layP F w0 M0 w p U s) (V : Env w) (d a b c n g : Int) (hO : OpGood U ⟨25, d, a, b, c, n, g⟩) (t : Int) (ht : elemT s ⟨25, d, a, b, c, n, g⟩ = t) (ht0 : ¬ t = 0) :
    Calls Tryd.prog 101 #[.pointer (some ⟨p, 0, none⟩), .agg #[.int .i64 25, .int .i64 d, .int .i64 a, .int .i64 b, .int .i64 c, .int .i64 n, .int .i64 g]] w (ActR F w0 M0 p U ((s.put d (0, t), 0, false))) := by
  obtain ⟨L, Q⟩ := E
  have np : p ≠ w.heap.size := Nat.ne_of_lt Q.e.blk.lt
  have nr : L.gr ≠ w.heap.size := Nat.ne_of_lt Q.e.regs.lt
  have nc : L.gc ≠ w.heap.size := Nat.ne_of_lt Q.e.kept.lt
  have lp : p < w.heap.size := Q.e.blk.lt
  have lr : L.gr < w.heap.size := Q.e.regs.lt
  have lc : L.gc < w.heap.size := Q.e.kept.lt
  have np' := np.symm
  have nr' := nr.symm
  have nc' := nc.symm
  have hr := S.regs
  have hkl := S.kept
  have hrl : s.regs.length ≤ 4096 := by have := G.r2; omega
  have hkk : s.kept.length ≤ 4096 := by have := G.sp2; omega
  have ha0 := hO.a.1
  have ha1 : a < s.regs.length := by rw [hr]; exact hO.a.2
  have hb0 := hO.b.1
  have hb1 : b < s.regs.length := by rw [hr]; exact hO.b.2
  have hd0 := hO.d.1
  have hd1 : d < s.regs.length := by rw [hr]; exact hO.d.2
  obtain ⟨n0, n1⟩ := hO.arr (by simp)
  simp only at n0 n1
  have hn1 : n < s.arrs.length := by rw [S.arrs]; exact n1
  have HQ := Lib.hid Q
  have hel := fun (w1 : World) (E1 : Eng layP F w1 p U s L) (V1 : Env w1) => element_any S G E1 ⟨25, d, a, b, c, n, g⟩ (by simp) hO V1 _ ht
  obtain ⟨gi, hgi⟩ : ∃ gi, gi = L.ga.getD n.toNat 0 := ⟨_, rfl⟩
  rw [← hgi] at hel
  have HGI := Lib.hid hgi
  clear hgi
  obtain ⟨ev, hev⟩ : ∃ ev, ev = (s.arr n).getD (s.reg a).1.toNat 0 := ⟨_, rfl⟩
  have HEV := Lib.hid hev
  clear hev
  have HEL := Lib.hid hel
  have HV := Lib.hid V
  have HS := Lib.hid S
  clear Q hO S G V hel hr hkl
  go_enter Tryd.func101, Tryd.ntmps101
  go_wp2_with (go_at_call 119; refine (HEL.out _ (HQ.out.alloc _).e (HV.out.below ((Below.refl _ _).alloc (Nat.le_refl _) _))).mono ?_; rintro e w1 ⟨rfl, hb⟩; (rw [if_neg ht0]); have Q1 := HQ.out.below (bel_box hb); have c6 := P6 Q1.e; have rd0 := reg0 Q1.e hd0 hd1; have rd1 := reg1 Q1.e hd0 hd1; have rb0 := reg0 Q1.e hb0 hb1; have f0 := Q1.e.regs.frozen (d.toNat * 2); have f1 := Q1.e.regs.frozen (d.toNat * 2 + 1); have xc0 := cell_box hb 0 (.int .i64 25) rfl; have xc1 := cell_box hb 1 (.int .i64 d) rfl; have xc3 := cell_box hb 3 (.int .i64 b) rfl; skip; have HQ1 := Lib.hid Q1; clear Q1 hb)
  go_region
  go_wp2
  go_ret2
  exact ⟨rfl, ((HQ1.out.drewN _).newReg okP d.toNat (0, t)).x⟩

set_option maxRecDepth 100000 in
set_option maxHeartbeats 4000000 in
theorem act_load_ok (S : StGood U s) (G : UnGood U) (E : EngX layP F w0 M0 w p U s) (V : Env w) (d a b c n g : Int) (hO : OpGood U ⟨16, d, a, b, c, n, g⟩) (ht : elemT s ⟨16, d, a, b, c, n, g⟩ = 0) (i0 : 0 ≤ (s.reg a).1) (i1 : (s.reg a).1 < (s.arr n).length) :
    Calls Tryd.prog 101 #[.pointer (some ⟨p, 0, none⟩), .agg #[.int .i64 16, .int .i64 d, .int .i64 a, .int .i64 b, .int .i64 c, .int .i64 n, .int .i64 g]] w (ActR F w0 M0 p U ((s.put d ((s.arr n).getD (s.reg a).1.toNat 0, 0), 0, false))) := by
  obtain ⟨L, Q⟩ := E
  have np : p ≠ w.heap.size := Nat.ne_of_lt Q.e.blk.lt
  have nr : L.gr ≠ w.heap.size := Nat.ne_of_lt Q.e.regs.lt
  have nc : L.gc ≠ w.heap.size := Nat.ne_of_lt Q.e.kept.lt
  have lp : p < w.heap.size := Q.e.blk.lt
  have lr : L.gr < w.heap.size := Q.e.regs.lt
  have lc : L.gc < w.heap.size := Q.e.kept.lt
  have np' := np.symm
  have nr' := nr.symm
  have nc' := nc.symm
  have hr := S.regs
  have hkl := S.kept
  have hrl : s.regs.length ≤ 4096 := by have := G.r2; omega
  have hkk : s.kept.length ≤ 4096 := by have := G.sp2; omega
  have ha0 := hO.a.1
  have ha1 : a < s.regs.length := by rw [hr]; exact hO.a.2
  have hb0 := hO.b.1
  have hb1 : b < s.regs.length := by rw [hr]; exact hO.b.2
  have hd0 := hO.d.1
  have hd1 : d < s.regs.length := by rw [hr]; exact hO.d.2
  obtain ⟨n0, n1⟩ := hO.arr (by simp)
  simp only at n0 n1
  have hn1 : n < s.arrs.length := by rw [S.arrs]; exact n1
  have HQ := Lib.hid Q
  have hel := fun (w1 : World) (E1 : Eng layP F w1 p U s L) (V1 : Env w1) => element_any S G E1 ⟨16, d, a, b, c, n, g⟩ (by simp) hO V1 _ ht
  obtain ⟨gi, hgi⟩ : ∃ gi, gi = L.ga.getD n.toNat 0 := ⟨_, rfl⟩
  rw [← hgi] at hel
  have HGI := Lib.hid hgi
  clear hgi
  obtain ⟨ev, hev⟩ : ∃ ev, ev = (s.arr n).getD (s.reg a).1.toNat 0 := ⟨_, rfl⟩
  have HEV := Lib.hid hev
  rw [← hev]
  clear hev
  have HEL := Lib.hid hel
  have HV := Lib.hid V
  have HS := Lib.hid S
  clear Q hO S G V hel hr hkl
  go_enter Tryd.func101, Tryd.ntmps101
  go_wp2_with (go_at_call 119; refine (HEL.out _ (HQ.out.alloc _).e (HV.out.below ((Below.refl _ _).alloc (Nat.le_refl _) _))).mono ?_; rintro e w1 ⟨rfl, hb⟩; (skip); have Q1 := HQ.out.below (bel_box hb); have c6 := P6 Q1.e; have rd0 := reg0 Q1.e hd0 hd1; have rd1 := reg1 Q1.e hd0 hd1; have rb0 := reg0 Q1.e hb0 hb1; have f0 := Q1.e.regs.frozen (d.toNat * 2); have f1 := Q1.e.regs.frozen (d.toNat * 2 + 1); have xc0 := cell_box hb 0 (.int .i64 16) rfl; have xc1 := cell_box hb 1 (.int .i64 d) rfl; have xc3 := cell_box hb 3 (.int .i64 b) rfl; (simp only [if_true]); obtain ⟨ci, fi⟩ := inner_at Q1.e n0 hn1 i0 i1; (rw [← HGI.out] at ci fi); (rw [← HEV.out] at ci); have hne : L.gr ≠ gi := (by rw [HGI.out]; exact Q1.e.regs.ne_ (Q1.e.inner n.toNat (by omega)) (by decide)); have hne' := hne.symm; have HQ1 := Lib.hid Q1; clear Q1 hb)
  go_region
  go_wp2
  go_ret2
  exact ⟨rfl, ((HQ1.out.drewN _).newReg okP d.toNat (ev, 0)).x⟩

set_option maxRecDepth 100000 in
set_option maxHeartbeats 4000000 in
theorem act_loads_ok (S : StGood U s) (G : UnGood U) (E : EngX layP F w0 M0 w p U s) (V : Env w) (d a b c n g : Int) (hO : OpGood U ⟨25, d, a, b, c, n, g⟩) (ht : elemT s ⟨25, d, a, b, c, n, g⟩ = 0) (i0 : 0 ≤ (s.reg a).1) (i1 : (s.reg a).1 < (s.arr n).length) :
    Calls Tryd.prog 101 #[.pointer (some ⟨p, 0, none⟩), .agg #[.int .i64 25, .int .i64 d, .int .i64 a, .int .i64 b, .int .i64 c, .int .i64 n, .int .i64 g]] w (ActR F w0 M0 p U ((s.put d ((s.arr n).getD (s.reg a).1.toNat 0, 0), 0, false))) := by
  obtain ⟨L, Q⟩ := E
  have np : p ≠ w.heap.size := Nat.ne_of_lt Q.e.blk.lt
  have nr : L.gr ≠ w.heap.size := Nat.ne_of_lt Q.e.regs.lt
  have nc : L.gc ≠ w.heap.size := Nat.ne_of_lt Q.e.kept.lt
  have lp : p < w.heap.size := Q.e.blk.lt
  have lr : L.gr < w.heap.size := Q.e.regs.lt
  have lc : L.gc < w.heap.size := Q.e.kept.lt
  have np' := np.symm
  have nr' := nr.symm
  have nc' := nc.symm
  have hr := S.regs
  have hkl := S.kept
  have hrl : s.regs.length ≤ 4096 := by have := G.r2; omega
  have hkk : s.kept.length ≤ 4096 := by have := G.sp2; omega
  have ha0 := hO.a.1
  have ha1 : a < s.regs.length := by rw [hr]; exact hO.a.2
  have hb0 := hO.b.1
  have hb1 : b < s.regs.length := by rw [hr]; exact hO.b.2
  have hd0 := hO.d.1
  have hd1 : d < s.regs.length := by rw [hr]; exact hO.d.2
  obtain ⟨n0, n1⟩ := hO.arr (by simp)
  simp only at n0 n1
  have hn1 : n < s.arrs.length := by rw [S.arrs]; exact n1
  have HQ := Lib.hid Q
  have hel := fun (w1 : World) (E1 : Eng layP F w1 p U s L) (V1 : Env w1) => element_any S G E1 ⟨25, d, a, b, c, n, g⟩ (by simp) hO V1 _ ht
  obtain ⟨gi, hgi⟩ : ∃ gi, gi = L.ga.getD n.toNat 0 := ⟨_, rfl⟩
  rw [← hgi] at hel
  have HGI := Lib.hid hgi
  clear hgi
  obtain ⟨ev, hev⟩ : ∃ ev, ev = (s.arr n).getD (s.reg a).1.toNat 0 := ⟨_, rfl⟩
  have HEV := Lib.hid hev
  rw [← hev]
  clear hev
  have HEL := Lib.hid hel
  have HV := Lib.hid V
  have HS := Lib.hid S
  clear Q hO S G V hel hr hkl
  go_enter Tryd.func101, Tryd.ntmps101
  go_wp2_with (go_at_call 119; refine (HEL.out _ (HQ.out.alloc _).e (HV.out.below ((Below.refl _ _).alloc (Nat.le_refl _) _))).mono ?_; rintro e w1 ⟨rfl, hb⟩; (skip); have Q1 := HQ.out.below (bel_box hb); have c6 := P6 Q1.e; have rd0 := reg0 Q1.e hd0 hd1; have rd1 := reg1 Q1.e hd0 hd1; have rb0 := reg0 Q1.e hb0 hb1; have f0 := Q1.e.regs.frozen (d.toNat * 2); have f1 := Q1.e.regs.frozen (d.toNat * 2 + 1); have xc0 := cell_box hb 0 (.int .i64 25) rfl; have xc1 := cell_box hb 1 (.int .i64 d) rfl; have xc3 := cell_box hb 3 (.int .i64 b) rfl; (simp only [if_true]); obtain ⟨ci, fi⟩ := inner_at Q1.e n0 hn1 i0 i1; (rw [← HGI.out] at ci fi); (rw [← HEV.out] at ci); have hne : L.gr ≠ gi := (by rw [HGI.out]; exact Q1.e.regs.ne_ (Q1.e.inner n.toNat (by omega)) (by decide)); have hne' := hne.symm; have HQ1 := Lib.hid Q1; clear Q1 hb)
  go_region
  go_wp2
  go_ret2
  exact ⟨rfl, ((HQ1.out.drewN _).newReg okP d.toNat (ev, 0)).x⟩

set_option maxRecDepth 100000 in
set_option maxHeartbeats 4000000 in
theorem act_store_ok (S : StGood U s) (G : UnGood U) (E : EngX layP F w0 M0 w p U s) (V : Env w) (d a b c n g : Int) (hO : OpGood U ⟨17, d, a, b, c, n, g⟩) (ht : elemT s ⟨17, d, a, b, c, n, g⟩ = 0) (i0 : 0 ≤ (s.reg a).1) (i1 : (s.reg a).1 < (s.arr n).length) :
    Calls Tryd.prog 101 #[.pointer (some ⟨p, 0, none⟩), .agg #[.int .i64 17, .int .i64 d, .int .i64 a, .int .i64 b, .int .i64 c, .int .i64 n, .int .i64 g]] w (ActR F w0 M0 p U (({ s with arrs := s.arrs.modify n.toNat (fun l => l.set (s.reg a).1.toNat (s.reg b).1) }, 0, false))) := by
  obtain ⟨L, Q⟩ := E
  have np : p ≠ w.heap.size := Nat.ne_of_lt Q.e.blk.lt
  have nr : L.gr ≠ w.heap.size := Nat.ne_of_lt Q.e.regs.lt
  have nc : L.gc ≠ w.heap.size := Nat.ne_of_lt Q.e.kept.lt
  have lp : p < w.heap.size := Q.e.blk.lt
  have lr : L.gr < w.heap.size := Q.e.regs.lt
  have lc : L.gc < w.heap.size := Q.e.kept.lt
  have np' := np.symm
  have nr' := nr.symm
  have nc' := nc.symm
  have hr := S.regs
  have hkl := S.kept
  have hrl : s.regs.length ≤ 4096 := by have := G.r2; omega
  have hkk : s.kept.length ≤ 4096 := by have := G.sp2; omega
  have ha0 := hO.a.1
  have ha1 : a < s.regs.length := by rw [hr]; exact hO.a.2
  have hb0 := hO.b.1
  have hb1 : b < s.regs.length := by rw [hr]; exact hO.b.2
  have hd0 := hO.d.1
  have hd1 : d < s.regs.length := by rw [hr]; exact hO.d.2
  obtain ⟨n0, n1⟩ := hO.arr (by simp)
  simp only at n0 n1
  have hn1 : n < s.arrs.length := by rw [S.arrs]; exact n1
  have HQ := Lib.hid Q
  have hel := fun (w1 : World) (E1 : Eng layP F w1 p U s L) (V1 : Env w1) => element_any S G E1 ⟨17, d, a, b, c, n, g⟩ (by simp) hO V1 _ ht
  obtain ⟨gi, hgi⟩ : ∃ gi, gi = L.ga.getD n.toNat 0 := ⟨_, rfl⟩
  rw [← hgi] at hel
  have HGI := Lib.hid hgi
  clear hgi
  obtain ⟨ev, hev⟩ : ∃ ev, ev = (s.arr n).getD (s.reg a).1.toNat 0 := ⟨_, rfl⟩
  have HEV := Lib.hid hev
  clear hev
  have HEL := Lib.hid hel
  have HV := Lib.hid V
  have HS := Lib.hid S
  clear Q hO S G V hel hr hkl
  go_enter Tryd.func101, Tryd.ntmps101
  go_wp2_with (go_at_call 119; refine (HEL.out _ (HQ.out.alloc _).e (HV.out.below ((Below.refl _ _).alloc (Nat.le_refl _) _))).mono ?_; rintro e w1 ⟨rfl, hb⟩; (skip); have Q1 := HQ.out.below (bel_box hb); have c6 := P6 Q1.e; have rd0 := reg0 Q1.e hd0 hd1; have rd1 := reg1 Q1.e hd0 hd1; have rb0 := reg0 Q1.e hb0 hb1; have f0 := Q1.e.regs.frozen (d.toNat * 2); have f1 := Q1.e.regs.frozen (d.toNat * 2 + 1); have xc0 := cell_box hb 0 (.int .i64 17) rfl; have xc1 := cell_box hb 1 (.int .i64 d) rfl; have xc3 := cell_box hb 3 (.int .i64 b) rfl; (simp only [if_true]); obtain ⟨ci, fi⟩ := inner_at Q1.e n0 hn1 i0 i1; (rw [← HGI.out] at ci fi); (rw [← HEV.out] at ci); have hne : L.gr ≠ gi := (by rw [HGI.out]; exact Q1.e.regs.ne_ (Q1.e.inner n.toNat (by omega)) (by decide)); have hne' := hne.symm; have HQ1 := Lib.hid Q1; clear Q1 hb)
  go_region
  go_wp2
  go_ret2
  rw [HGI.out]
  exact ⟨rfl, ((HQ1.out.drewN _).newArr okP n.toNat (s.reg a).1.toNat (by omega) (s.reg b).1).x⟩
end Go.Proofs.YtfkjkdoloamakaaDoor
