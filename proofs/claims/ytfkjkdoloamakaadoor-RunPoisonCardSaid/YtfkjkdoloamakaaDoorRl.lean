/- What act of package run does, part two: print, exit, check. -/
import Derived.Test.YtfkjkdoloamakaaDoorRk
import Derived.Deep.AppendLies
import Derived.Deep.RegionLaw
namespace Go.Proofs.YtfkjkdoloamakaaDoor
open Go.RowKit
set_option linter.unusedVariables false
variable {F : Nat → Prop} {w0 w : World} {M0 : Nat → Prop} {p : Nat} {U : UnS} {s : St}

theorem step_append_own {P : Program} {w : World} {ops : Array Oper} {o : Oper} {a : Act} {K : Act → World → Prop} {Q : Exit → Act → World → Prop} {E : Prop} (hgd : o.guard = none) (s x : Operand) (t : TypeId)
    (ho : o.op = .call { callee := .builtin .append, args := #[s, x], argTypes := #[t, t] })
    (base : Nat) (e : TypeId) (i : TypeInfo) (z : Value) (size bytes : Nat) (ht : P.underlying t = some (.slice e)) (hi : P.info? e = some i) (hz : i.zero = some z)
    (hsize : i.size = size) (hby : i.bytes = bytes) (hzs : z.cells.size = size) (hsz : 0 < size)
    (v : Value) (n : Nat) (xs : List Value) (hs : a.eval s = v) (hown : w.ownsRow base e size v n xs)
    (ad : Addr) (m c : Nat) (news : List Value) (hx : a.eval x = .slice (some ad) m c) (hl : news.length = m * size) (hnews : ∀ j u, news[j]? = some u → w.cell? (ad.add j) = some u) (h1 : ∀ u ∈ news, u.oneCell' = true)
    (h63 : n + m ≤ maxLen) (hbytes : (n + m) * bytes ≤ 140737488355328) (hbase : base ≤ w.heap.size)
    (h : ∀ v' w', w'.ownsRow base e size v' (n + m) (xs ++ news) → w.grownBy w' v.ownBlock → (v'.ownBlock = v.ownBlock ∨ v'.ownBlock = some w.heap.size) → K (a.put o.dst v') w') :
    if Region.wanted o (yielded ops a.tmps) = true then Oper.wp P o a w K Q else E := by
  have hw : Region.wanted o (yielded ops a.tmps) = true := by simp [Region.wanted, hgd]
  rw [if_pos hw]
  obtain ⟨v', w', hr, h2, h3, h4, h5⟩ := run_append_own_at (P := P) w base t o.type e i z size bytes ht hi hz hsize hby hzs hsz v n xs hown ad m c news hl hnews h1 h63 hbytes hbase
  unfold Oper.wp execOp
  simp only [ho, resolve, invoke, builtin, Sem.run_bind, Sem.run_pure, Result.andThen_ok, List.map_toArray, List.map_cons, List.map_nil, hs, hx, hr]
  exact h v' w' h2 h3 h5
theorem cell_of_new (W : World) {n : Nat} (hn : n = W.heap.size) {x : Value} {t : TypeId} : (W.alloc (.cells #[x] t)).cell? ⟨n, 0, none⟩ = some x := (blk_new W hn t #[x]).cell 0

set_option maxRecDepth 100000 in
set_option maxHeartbeats 4000000 in
theorem act_print_bad (S : StGood U s) (G : UnGood U) (E : EngX layP F w0 M0 w p U s) (V : Env w) (d a b c n g : Int) (hO : OpGood U ⟨20, d, a, b, c, n, g⟩) (t : Int) (hbd : (s.reg a).2 = t) (ht0 : ¬ t = 0) :
    Calls Tryd.prog 101 #[.pointer (some ⟨p, 0, none⟩), .agg #[.int .i64 20, .int .i64 d, .int .i64 a, .int .i64 b, .int .i64 c, .int .i64 n, .int .i64 g]] w (ActR F w0 M0 p U ((s, t, false))) := by
  obtain ⟨L, Q⟩ := E
  have np : p ≠ w.heap.size := Nat.ne_of_lt Q.e.blk.lt
  have nr : L.gr ≠ w.heap.size := Nat.ne_of_lt Q.e.regs.lt
  have nc : L.gc ≠ w.heap.size := Nat.ne_of_lt Q.e.kept.lt
  have lp : p < w.heap.size := Q.e.blk.lt
  have lr : L.gr < w.heap.size := Q.e.regs.lt
  have lc : L.gc < w.heap.size := Q.e.kept.lt
  have np' := np.symm
  have nr' := nr.symm
  have nc' := nc.symm
  have hr := S.regs
  have hkl := S.kept
  have hrl : s.regs.length ≤ 4096 := by have := G.r2; omega
  have hkk : s.kept.length ≤ 4096 := by have := G.sp2; omega
  have ha0 := hO.a.1
  have ha1 : a < s.regs.length := by rw [hr]; exact hO.a.2
  have hb0 := hO.b.1
  have hb1 : b < s.regs.length := by rw [hr]; exact hO.b.2
  have hd0 := hO.d.1
  have hd1 : d < s.regs.length := by rw [hr]; exact hO.d.2
  have c6 := P6 Q.e
  have c9 := P9 Q.e
  have r0 := reg0 Q.e ha0 ha1
  have HQ := Lib.hid Q
  have HBD := Lib.hid hbd
  have HS := Lib.hid S
  clear Q hO S G V hr hkl hbd
  go_enter Tryd.func101, Tryd.ntmps101
  go_wp2_with (go_at_call 98; refine (bad_one ((HQ.out.alloc _).alloc _).e (g := w.heap.size + 1) (a := a) (cell_of_new _ (by simp)) ha0 ha1 t HBD.out).mono ?_; rintro e w2 ⟨rfl, rfl⟩)
  go_ret2
  exact ⟨rfl, ((HQ.out.alloc _).alloc _).x⟩

set_option maxRecDepth 100000 in
set_option maxHeartbeats 4000000 in
theorem act_exit_bad (S : StGood U s) (G : UnGood U) (E : EngX layP F w0 M0 w p U s) (V : Env w) (d a b c n g : Int) (hO : OpGood U ⟨21, d, a, b, c, n, g⟩) (t : Int) (hbd : (s.reg a).2 = t) (ht0 : ¬ t = 0) :
    Calls Tryd.prog 101 #[.pointer (some ⟨p, 0, none⟩), .agg #[.int .i64 21, .int .i64 d, .int .i64 a, .int .i64 b, .int .i64 c, .int .i64 n, .int .i64 g]] w (ActR F w0 M0 p U ((s, t, false))) := by
  obtain ⟨L, Q⟩ := E
  have np : p ≠ w.heap.size := Nat.ne_of_lt Q.e.blk.lt
  have nr : L.gr ≠ w.heap.size := Nat.ne_of_lt Q.e.regs.lt
  have nc : L.gc ≠ w.heap.size := Nat.ne_of_lt Q.e.kept.lt
  have lp : p < w.heap.size := Q.e.blk.lt
  have lr : L.gr < w.heap.size := Q.e.regs.lt
  have lc : L.gc < w.heap.size := Q.e.kept.lt
  have np' := np.symm
  have nr' := nr.symm
  have nc' := nc.symm
  have hr := S.regs
  have hkl := S.kept
  have hrl : s.regs.length ≤ 4096 := by have := G.r2; omega
  have hkk : s.kept.length ≤ 4096 := by have := G.sp2; omega
  have ha0 := hO.a.1
  have ha1 : a < s.regs.length := by rw [hr]; exact hO.a.2
  have hb0 := hO.b.1
  have hb1 : b < s.regs.length := by rw [hr]; exact hO.b.2
  have hd0 := hO.d.1
  have hd1 : d < s.regs.length := by rw [hr]; exact hO.d.2
  have c6 := P6 Q.e
  have c9 := P9 Q.e
  have r0 := reg0 Q.e ha0 ha1
  have HQ := Lib.hid Q
  have HBD := Lib.hid hbd
  have HS := Lib.hid S
  clear Q hO S G V hr hkl hbd
  go_enter Tryd.func101, Tryd.ntmps101
  go_wp2_with (go_at_call 98; refine (bad_one ((HQ.out.alloc _).alloc _).e (g := w.heap.size + 1) (a := a) (cell_of_new _ (by simp)) ha0 ha1 t HBD.out).mono ?_; rintro e w2 ⟨rfl, rfl⟩)
  go_ret2
  exact ⟨rfl, ((HQ.out.alloc _).alloc _).x⟩

set_option maxRecDepth 100000 in
set_option maxHeartbeats 4000000 in
theorem act_check_bad (S : StGood U s) (G : UnGood U) (E : EngX layP F w0 M0 w p U s) (V : Env w) (d a b c n g : Int) (hO : OpGood U ⟨22, d, a, b, c, n, g⟩) (t : Int) (hbd : (s.reg a).2 = t) (ht0 : ¬ t = 0) :
    Calls Tryd.prog 101 #[.pointer (some ⟨p, 0, none⟩), .agg #[.int .i64 22, .int .i64 d, .int .i64 a, .int .i64 b, .int .i64 c, .int .i64 n, .int .i64 g]] w (ActR F w0 M0 p U ((s, t, false))) := by
  obtain ⟨L, Q⟩ := E
  have np : p ≠ w.heap.size := Nat.ne_of_lt Q.e.blk.lt
  have nr : L.gr ≠ w.heap.size := Nat.ne_of_lt Q.e.regs.lt
  have nc : L.gc ≠ w.heap.size := Nat.ne_of_lt Q.e.kept.lt
  have lp : p < w.heap.size := Q.e.blk.lt
  have lr : L.gr < w.heap.size := Q.e.regs.lt
  have lc : L.gc < w.heap.size := Q.e.kept.lt
  have np' := np.symm
  have nr' := nr.symm
  have nc' := nc.symm
  have hr := S.regs
  have hkl := S.kept
  have hrl : s.regs.length ≤ 4096 := by have := G.r2; omega
  have hkk : s.kept.length ≤ 4096 := by have := G.sp2; omega
  have ha0 := hO.a.1
  have ha1 : a < s.regs.length := by rw [hr]; exact hO.a.2
  have hb0 := hO.b.1
  have hb1 : b < s.regs.length := by rw [hr]; exact hO.b.2
  have hd0 := hO.d.1
  have hd1 : d < s.regs.length := by rw [hr]; exact hO.d.2
  have c6 := P6 Q.e
  have c9 := P9 Q.e
  have r0 := reg0 Q.e ha0 ha1
  have HQ := Lib.hid Q
  have HBD := Lib.hid hbd
  have HS := Lib.hid S
  clear Q hO S G V hr hkl hbd
  go_enter Tryd.func101, Tryd.ntmps101
  go_wp2_with (go_at_call 98; refine (bad_one ((HQ.out.alloc _).alloc _).e (g := w.heap.size + 1) (a := a) (cell_of_new _ (by simp)) ha0 ha1 t HBD.out).mono ?_; rintro e w2 ⟨rfl, rfl⟩)
  go_ret2
  exact ⟨rfl, ((HQ.out.alloc _).alloc _).x⟩

set_option maxRecDepth 100000 in
set_option maxHeartbeats 4000000 in
theorem act_check_ok (S : StGood U s) (G : UnGood U) (E : EngX layP F w0 M0 w p U s) (V : Env w) (d a b c n g : Int) (hO : OpGood U ⟨22, d, a, b, c, n, g⟩) (hbd : (s.reg a).2 = 0) :
    Calls Tryd.prog 101 #[.pointer (some ⟨p, 0, none⟩), .agg #[.int .i64 22, .int .i64 d, .int .i64 a, .int .i64 b, .int .i64 c, .int .i64 n, .int .i64 g]] w (ActR F w0 M0 p U ((s, 0, false))) := by
  obtain ⟨L, Q⟩ := E
  have np : p ≠ w.heap.size := Nat.ne_of_lt Q.e.blk.lt
  have nr : L.gr ≠ w.heap.size := Nat.ne_of_lt Q.e.regs.lt
  have nc : L.gc ≠ w.heap.size := Nat.ne_of_lt Q.e.kept.lt
  have lp : p < w.heap.size := Q.e.blk.lt
  have lr : L.gr < w.heap.size := Q.e.regs.lt
  have lc : L.gc < w.heap.size := Q.e.kept.lt
  have np' := np.symm
  have nr' := nr.symm
  have nc' := nc.symm
  have hr := S.regs
  have hkl := S.kept
  have hrl : s.regs.length ≤ 4096 := by have := G.r2; omega
  have hkk : s.kept.length ≤ 4096 := by have := G.sp2; omega
  have ha0 := hO.a.1
  have ha1 : a < s.regs.length := by rw [hr]; exact hO.a.2
  have hb0 := hO.b.1
  have hb1 : b < s.regs.length := by rw [hr]; exact hO.b.2
  have hd0 := hO.d.1
  have hd1 : d < s.regs.length := by rw [hr]; exact hO.d.2
  have c6 := P6 Q.e
  have c9 := P9 Q.e
  have r0 := reg0 Q.e ha0 ha1
  have HQ := Lib.hid Q
  have HBD := Lib.hid hbd
  have HS := Lib.hid S
  clear Q hO S G V hr hkl hbd
  go_enter Tryd.func101, Tryd.ntmps101
  go_wp2_with (go_at_call 98; refine (bad_one ((HQ.out.alloc _).alloc _).e (g := w.heap.size + 1) (a := a) (cell_of_new _ (by simp)) ha0 ha1 0 HBD.out).mono ?_; rintro e w2 ⟨rfl, rfl⟩)
  go_ret2
  exact ⟨rfl, ((HQ.out.alloc _).alloc _).x⟩

set_option maxRecDepth 100000 in
set_option maxHeartbeats 4000000 in
theorem act_exit_no (S : StGood U s) (G : UnGood U) (E : EngX layP F w0 M0 w p U s) (V : Env w) (d a b c n g : Int) (hO : OpGood U ⟨21, d, a, b, c, n, g⟩) (hbd : (s.reg a).2 = 0) (hz : (s.reg a).1 = 0) :
    Calls Tryd.prog 101 #[.pointer (some ⟨p, 0, none⟩), .agg #[.int .i64 21, .int .i64 d, .int .i64 a, .int .i64 b, .int .i64 c, .int .i64 n, .int .i64 g]] w (ActR F w0 M0 p U ((s, 0, false))) := by
  obtain ⟨L, Q⟩ := E
  have np : p ≠ w.heap.size := Nat.ne_of_lt Q.e.blk.lt
  have nr : L.gr ≠ w.heap.size := Nat.ne_of_lt Q.e.regs.lt
  have nc : L.gc ≠ w.heap.size := Nat.ne_of_lt Q.e.kept.lt
  have lp : p < w.heap.size := Q.e.blk.lt
  have lr : L.gr < w.heap.size := Q.e.regs.lt
  have lc : L.gc < w.heap.size := Q.e.kept.lt
  have np' := np.symm
  have nr' := nr.symm
  have nc' := nc.symm
  have hr := S.regs
  have hkl := S.kept
  have hrl : s.regs.length ≤ 4096 := by have := G.r2; omega
  have hkk : s.kept.length ≤ 4096 := by have := G.sp2; omega
  have ha0 := hO.a.1
  have ha1 : a < s.regs.length := by rw [hr]; exact hO.a.2
  have hb0 := hO.b.1
  have hb1 : b < s.regs.length := by rw [hr]; exact hO.b.2
  have hd0 := hO.d.1
  have hd1 : d < s.regs.length := by rw [hr]; exact hO.d.2
  have c6 := P6 Q.e
  have c9 := P9 Q.e
  have r0 := reg0 Q.e ha0 ha1
  have HQ := Lib.hid Q
  have HBD := Lib.hid hbd
  have HS := Lib.hid S
  clear Q hO S G V hr hkl hbd
  go_enter Tryd.func101, Tryd.ntmps101
  go_wp2_with (go_at_call 98; refine (bad_one ((HQ.out.alloc _).alloc _).e (g := w.heap.size + 1) (a := a) (cell_of_new _ (by simp)) ha0 ha1 0 HBD.out).mono ?_; rintro e w2 ⟨rfl, rfl⟩)
  go_quiet (fail)
  go_wp2
  go_ret2
  exact ⟨rfl, (((HQ.out.alloc _).alloc _).drewN _).x⟩

set_option maxRecDepth 100000 in
set_option maxHeartbeats 4000000 in
theorem act_exit_yes (S : StGood U s) (G : UnGood U) (E : EngX layP F w0 M0 w p U s) (V : Env w) (d a b c n g : Int) (hO : OpGood U ⟨21, d, a, b, c, n, g⟩) (hbd : (s.reg a).2 = 0) (hz : ¬ (s.reg a).1 = 0) :
    Calls Tryd.prog 101 #[.pointer (some ⟨p, 0, none⟩), .agg #[.int .i64 21, .int .i64 d, .int .i64 a, .int .i64 b, .int .i64 c, .int .i64 n, .int .i64 g]] w (ActR F w0 M0 p U ((s.enter n.toNat, 0, true))) := by
  obtain ⟨L, Q⟩ := E
  have np : p ≠ w.heap.size := Nat.ne_of_lt Q.e.blk.lt
  have nr : L.gr ≠ w.heap.size := Nat.ne_of_lt Q.e.regs.lt
  have nc : L.gc ≠ w.heap.size := Nat.ne_of_lt Q.e.kept.lt
  have lp : p < w.heap.size := Q.e.blk.lt
  have lr : L.gr < w.heap.size := Q.e.regs.lt
  have lc : L.gc < w.heap.size := Q.e.kept.lt
  have np' := np.symm
  have nr' := nr.symm
  have nc' := nc.symm
  have hr := S.regs
  have hkl := S.kept
  have hrl : s.regs.length ≤ 4096 := by have := G.r2; omega
  have hkk : s.kept.length ≤ 4096 := by have := G.sp2; omega
  have ha0 := hO.a.1
  have ha1 : a < s.regs.length := by rw [hr]; exact hO.a.2
  have hb0 := hO.b.1
  have hb1 : b < s.regs.length := by rw [hr]; exact hO.b.2
  have hd0 := hO.d.1
  have hd1 : d < s.regs.length := by rw [hr]; exact hO.d.2
  obtain ⟨n0, n1⟩ := hO.exit rfl
  simp only at n0 n1
  have n1' : n < s.seen.length := by rw [S.seen]; exact n1
  have HN1 := Lib.hid n1'
  have c6 := P6 Q.e
  have c9 := P9 Q.e
  have r0 := reg0 Q.e ha0 ha1
  have HQ := Lib.hid Q
  have HBD := Lib.hid hbd
  have HS := Lib.hid S
  clear Q hO S G V hr hkl hbd
  go_enter Tryd.func101, Tryd.ntmps101
  go_wp2_with (go_at_call 98; refine (bad_one ((HQ.out.alloc _).alloc _).e (g := w.heap.size + 1) (a := a) (cell_of_new _ (by simp)) ha0 ha1 0 HBD.out).mono ?_; rintro e w2 ⟨rfl, rfl⟩)
  go_quiet (fail)
  go_wp2_with (go_at_call 97; refine (enter_any (((HQ.out.alloc _).alloc _).drewN _).x n n0 HN1.out HS.out.ways).mono ?_; rintro e w3 ⟨rfl, E3⟩)
  go_ret2
  exact ⟨rfl, E3⟩

set_option maxRecDepth 100000 in
set_option maxHeartbeats 4000000 in
theorem act_print_ok (S : StGood U s) (G : UnGood U) (E : EngX layP F w0 M0 w p U s) (V : Env w) (d a b c n g : Int) (hO : OpGood U ⟨20, d, a, b, c, n, g⟩) (hbd : (s.reg a).2 = 0) (hpl : s.prints.length ≤ 1000000000000) :
    Calls Tryd.prog 101 #[.pointer (some ⟨p, 0, none⟩), .agg #[.int .i64 20, .int .i64 d, .int .i64 a, .int .i64 b, .int .i64 c, .int .i64 n, .int .i64 g]] w (ActR F w0 M0 p U (({ s with prints := s.prints ++ [(s.reg a).1] }, 0, false))) := by
  obtain ⟨L, Q⟩ := E
  have np : p ≠ w.heap.size := Nat.ne_of_lt Q.e.blk.lt
  have nr : L.gr ≠ w.heap.size := Nat.ne_of_lt Q.e.regs.lt
  have nc : L.gc ≠ w.heap.size := Nat.ne_of_lt Q.e.kept.lt
  have lp : p < w.heap.size := Q.e.blk.lt
  have lr : L.gr < w.heap.size := Q.e.regs.lt
  have lc : L.gc < w.heap.size := Q.e.kept.lt
  have np' := np.symm
  have nr' := nr.symm
  have nc' := nc.symm
  have hr := S.regs
  have hkl := S.kept
  have hrl : s.regs.length ≤ 4096 := by have := G.r2; omega
  have hkk : s.kept.length ≤ 4096 := by have := G.sp2; omega
  have ha0 := hO.a.1
  have ha1 : a < s.regs.length := by rw [hr]; exact hO.a.2
  have hb0 := hO.b.1
  have hb1 : b < s.regs.length := by rw [hr]; exact hO.b.2
  have hd0 := hO.d.1
  have hd1 : d < s.regs.length := by rw [hr]; exact hO.d.2
  obtain ⟨A, cc, hvp⟩ := own_shape Q.e.prints
  have lp1 : p < w.heap.size + 1 := by omega
  have lp2 : p < w.heap.size + 1 + 1 := by omega
  have lp3 : p < w.heap.size + 2 := by omega
  have lr1 : L.gr < w.heap.size + 1 := by omega
  have lr2 : L.gr < w.heap.size + 1 + 1 := by omega
  have lr3 : L.gr < w.heap.size + 2 := by omega
  obtain ⟨i0, hi, hz0, hz1, hz2⟩ := info_parts i64_info
  have c6 := P6 Q.e
  have c9 := P9 Q.e
  rw [hvp] at c9
  have HVP := Lib.hid hvp
  have r0 := reg0 Q.e ha0 ha1
  have HQ := Lib.hid Q
  have HBD := Lib.hid hbd
  have HS := Lib.hid S
  clear Q hO S G V hr hkl hbd hvp
  go_enter Tryd.func101, Tryd.ntmps101
  go_wp2_with (go_at_call 98; refine (bad_one ((HQ.out.alloc _).alloc _).e (g := w.heap.size + 1) (a := a) (cell_of_new _ (by simp)) ha0 ha1 0 HBD.out).mono ?_; rintro e w2 ⟨rfl, rfl⟩)
  go_region_law ((refine step_append_own rfl (.tmp 126) (.tmp 137) 26 rfl 0 2 i0 (.int .i64 0) 1 8 Tryd.underlying26 hi hz0 hz1 hz2 rfl (by decide) (.slice A s.prints.length cc) s.prints.length (numV s.prints) rfl ?co ⟨w.heap.size + 2, 0, none⟩ 1 1 [.int .i64 (s.reg a).1] rfl rfl ?c1 ?c2 ?c3 ?c4 ?c5 ?_; (case co => (rw [← HVP.out]; exact ((((HQ.out.alloc _).alloc _).drewN 1).alloc _).e.prints)); (case c1 => exact cell_new _ _ (by simp) _ _); (case c2 => exact one_mem rfl); (case c3 => (unfold maxLen; omega)); (case c4 => omega); (case c5 => exact Nat.zero_le _); intro v' w1 hown1 hg1 hat1; obtain ⟨A1, cc1, rfl⟩ := own_shape hown1; rw [← HVP.out] at hg1 hat1; have hp1 := (((((HQ.out.alloc _).alloc _).drewN 1).alloc _).e.blk_prints okP hg1); have c91 : w1.cell? ⟨p, 9, none⟩ = some L.vp := (hp1.cell 9).trans rfl; have f91 := hp1.frozen 9; have HO1 := Lib.hid hown1; have HG1 := Lib.hid hg1; have HA1 := Lib.hid hat1; clear hown1 hg1 hat1 hp1))
  all_goals
    go_wp2
    go_ret2
    exact ⟨rfl, (((((HQ.out.alloc _).alloc _).drewN 1).alloc _).newPrints okP HG1.out (own_snoc HO1.out rfl) (HA1.out.elim .inl (fun h => .inr ⟨_, h, Nat.le_refl _⟩))).x⟩
end Go.Proofs.YtfkjkdoloamakaaDoor
