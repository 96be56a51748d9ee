/- The checker of package code: what it says of wrong operations. -/
import Derived.Test.YtfkjkdoloamakaaDoorMe
namespace Go.Proofs.YtfkjkdoloamakaaDoor
open Go.RowKit
set_option linter.unusedVariables false
set_option linter.unusedSimpArgs false
variable {w : World} {c : Nat} {U : UnS} {Av Ab : Option Addr} {cv cb : Nat}

set_option maxRecDepth 100000 in
set_option maxHeartbeats 1000000 in
theorem opx_66_rega (k d a b r3 n g : Int) (hu : usesK k = 66) (h1 : 1 ≤ k) (h2 : k ≤ 25) (hx : ¬ inR a U.regs) (K : Ck w c U Av cv Ab cb) (KP : CkP w c) (V : Env w) (hz : U.sizes.length ≤ 16) (hbl : U.blocks.length ≤ 2000) (hsp : 0 ≤ U.spill) :
    Calls Tryd.prog 94 #[.pointer (some ⟨c, 0, none⟩), .agg #[.int .i64 k, .int .i64 d, .int .i64 a, .int .i64 b, .int .i64 r3, .int .i64 n, .int .i64 g]] w fun x w' => Died 2 x ∧ Below w.heap.size w w' := by
  have HO := Lib.hid (fun (W : World) (V : Env W) => hu ▸ of_any k h1 h2 W V)
  have HV := Lib.hid V
  have lc := lt_cell K.c2
  have nc : c ≠ w.heap.size := by omega
  have nc' := nc.symm
  have lc1 : c < w.heap.size + 1 := by omega
  have HX := Lib.hid hx
  clear hx
  have K0 := K.c0
  have K2 := K.c2
  have K4 := K.c4
  have K5 := K.c5
  have HK := Lib.hid KP
  obtain ⟨cl, hcl⟩ : ∃ cl, cl = classK k := ⟨_, rfl⟩
  obtain ⟨nm, hnm⟩ : ∃ nm, nm = nameK k := ⟨_, rfl⟩
  rw [← hcl, ← hnm] at HO
  clear hu K KP V hcl hnm
  have m1 : bits .and .i64 66 1 = 0 := by decide
  have m2 : bits .and .i64 66 2 = 2 := by decide
  have m4 : bits .and .i64 66 4 = 0 := by decide
  have m8 : bits .and .i64 66 8 = 0 := by decide
  have m16 : bits .and .i64 66 16 = 0 := by decide
  have m32 : bits .and .i64 66 32 = 0 := by decide
  have m64 : bits .and .i64 66 64 = 64 := by decide
  have m128 : bits .and .i64 66 128 = 0 := by decide
  go_enter Tryd.func94, Tryd.ntmps94
  go_wp2_with (first
      | (go_at_call 111; refine (HO.out _ (HV.out.below ((Below.refl _ _).alloc (Nat.le_refl _) _))).mono ?_; rintro x w1 ⟨rfl, hb1⟩; have hbw := bel_box1 hb1; have E0 := keep1 hbw K0; have E2 := keep1 hbw K2; have E4 := keep1 hbw K4; have E5 := keep1 hbw K5; have EP := HK.out.below hbw; have xb0 := box1 hb1 0 (.int .i64 (k)) rfl; have xb1 := box1 hb1 1 (.int .i64 (d)) rfl; have xb2 := box1 hb1 2 (.int .i64 (a)) rfl; have xb3 := box1 hb1 3 (.int .i64 (b)) rfl; have xb4 := box1 hb1 4 (.int .i64 (r3)) rfl; have xb5 := box1 hb1 5 (.int .i64 (n)) rfl; have xb6 := box1 hb1 6 (.int .i64 (g)) rfl; have hsz := hbw.size; have ls1 := box_lt1 hb1; have nw : c ≠ w1.heap.size := ?nw; (case nw => omega); have nw' := nw.symm; have lw : c < w1.heap.size := ?nw; (case nw => omega); have nx : w.heap.size ≠ w1.heap.size := ?nw; (case nw => omega); have nx' := nx.symm; have HB := Lib.hid hbw; have HP := Lib.hid EP; clear hb1 hbw EP)
      | (go_at_call 112; (with_reducible refine (reg_ok (U := U) _ _ ?rg ?rc).mono ?_); (case rg => first | exact .inl rfl); (case rc => first | exact E2 | exact cellA E2 | (simp [*]; done)); rintro x w3 ⟨rfl, rfl⟩)
      | (go_at_call 112; (with_reducible refine (reg_bad (U := U) _ HX.out ?rc ?rd).mono ?_); (case rc => first | exact E2 | exact cellA E2 | (simp [*]; done)); (case rd => first | exact HP.out | exact HP.out.alloc _); rintro x w3 ⟨⟨b0, a0, rfl⟩, hb3⟩; have HB3 := Lib.hid hb3; clear hb3)
      | (go_at_call 91; (with_reducible refine (must_ok _ _ _).mono ?_); rintro x w3 ⟨rfl, rfl⟩))
  exact ⟨rfl, ⟨_, _, rfl⟩, by first | exact (HB.out.alloc (Nat.le_of_lt ls1) _).trans (HB3.out.mono (by simp; omega)) | exact HB.out.trans (HB3.out.mono hsz)⟩

set_option maxRecDepth 100000 in
set_option maxHeartbeats 1000000 in
theorem opx_66_gg (k d a b r3 n g : Int) (hu : usesK k = 66) (h1 : 1 ≤ k) (h2 : k ≤ 25) (ha : inR a U.regs) (hx0 : g ≠ -1) (hx : ¬ inR g U.regs) (K : Ck w c U Av cv Ab cb) (KP : CkP w c) (V : Env w) (hz : U.sizes.length ≤ 16) (hbl : U.blocks.length ≤ 2000) (hsp : 0 ≤ U.spill) :
    Calls Tryd.prog 94 #[.pointer (some ⟨c, 0, none⟩), .agg #[.int .i64 k, .int .i64 d, .int .i64 a, .int .i64 b, .int .i64 r3, .int .i64 n, .int .i64 g]] w fun x w' => Died 2 x ∧ Below w.heap.size w w' := by
  have HO := Lib.hid (fun (W : World) (V : Env W) => hu ▸ of_any k h1 h2 W V)
  have HV := Lib.hid V
  have lc := lt_cell K.c2
  have nc : c ≠ w.heap.size := by omega
  have nc' := nc.symm
  have lc1 : c < w.heap.size + 1 := by omega
  have Ha := Lib.hid ha
  clear ha
  have HX := Lib.hid hx
  clear hx
  have hgb : (g == -1) = false := by simpa using hx0
  have hgb2 : (g != -1) = true := by simpa using hx0
  clear hx0
  have K0 := K.c0
  have K2 := K.c2
  have K4 := K.c4
  have K5 := K.c5
  have HK := Lib.hid KP
  obtain ⟨cl, hcl⟩ : ∃ cl, cl = classK k := ⟨_, rfl⟩
  obtain ⟨nm, hnm⟩ : ∃ nm, nm = nameK k := ⟨_, rfl⟩
  rw [← hcl, ← hnm] at HO
  clear hu K KP V hcl hnm
  have m1 : bits .and .i64 66 1 = 0 := by decide
  have m2 : bits .and .i64 66 2 = 2 := by decide
  have m4 : bits .and .i64 66 4 = 0 := by decide
  have m8 : bits .and .i64 66 8 = 0 := by decide
  have m16 : bits .and .i64 66 16 = 0 := by decide
  have m32 : bits .and .i64 66 32 = 0 := by decide
  have m64 : bits .and .i64 66 64 = 64 := by decide
  have m128 : bits .and .i64 66 128 = 0 := by decide
  go_enter Tryd.func94, Tryd.ntmps94
  go_wp2_with (first
      | (go_at_call 111; refine (HO.out _ (HV.out.below ((Below.refl _ _).alloc (Nat.le_refl _) _))).mono ?_; rintro x w1 ⟨rfl, hb1⟩; have hbw := bel_box1 hb1; have E0 := keep1 hbw K0; have E2 := keep1 hbw K2; have E4 := keep1 hbw K4; have E5 := keep1 hbw K5; have EP := HK.out.below hbw; have xb0 := box1 hb1 0 (.int .i64 (k)) rfl; have xb1 := box1 hb1 1 (.int .i64 (d)) rfl; have xb2 := box1 hb1 2 (.int .i64 (a)) rfl; have xb3 := box1 hb1 3 (.int .i64 (b)) rfl; have xb4 := box1 hb1 4 (.int .i64 (r3)) rfl; have xb5 := box1 hb1 5 (.int .i64 (n)) rfl; have xb6 := box1 hb1 6 (.int .i64 (g)) rfl; have hsz := hbw.size; have ls1 := box_lt1 hb1; have nw : c ≠ w1.heap.size := ?nw; (case nw => omega); have nw' := nw.symm; have lw : c < w1.heap.size := ?nw; (case nw => omega); have nx : w.heap.size ≠ w1.heap.size := ?nw; (case nw => omega); have nx' := nx.symm; have HB := Lib.hid hbw; have HP := Lib.hid EP; clear hb1 hbw EP)
      | (go_at_call 112; (with_reducible refine (reg_ok (U := U) _ _ ?rg ?rc).mono ?_); (case rg => first | exact .inl rfl | exact .inr Ha.out); (case rc => first | exact E2 | exact cellA E2 | (simp [*]; done)); rintro x w3 ⟨rfl, rfl⟩)
      | (go_at_call 112; (with_reducible refine (reg_bad (U := U) _ HX.out ?rc ?rd).mono ?_); (case rc => first | exact E2 | exact cellA E2 | (simp [*]; done)); (case rd => first | exact HP.out | exact HP.out.alloc _); rintro x w3 ⟨⟨b0, a0, rfl⟩, hb3⟩; have HB3 := Lib.hid hb3; clear hb3)
      | (go_at_call 91; (with_reducible refine (must_ok _ _ _).mono ?_); rintro x w3 ⟨rfl, rfl⟩))
  exact ⟨rfl, ⟨_, _, rfl⟩, by first | exact (HB.out.alloc (Nat.le_of_lt ls1) _).trans (HB3.out.mono (by simp; omega)) | exact HB.out.trans (HB3.out.mono hsz)⟩

set_option maxRecDepth 100000 in
set_option maxHeartbeats 1000000 in
theorem opx_66_nn (k d a b r3 n g : Int) (hu : usesK k = 66) (h1 : 1 ≤ k) (h2 : k ≤ 25) (ha : inR a U.regs) (hg : g = -1 ∨ inR g U.regs) (hx : n < 0 ∨ U.spill ≤ n) (K : Ck w c U Av cv Ab cb) (KP : CkP w c) (V : Env w) (hz : U.sizes.length ≤ 16) (hbl : U.blocks.length ≤ 2000) (hsp : 0 ≤ U.spill) :
    Calls Tryd.prog 94 #[.pointer (some ⟨c, 0, none⟩), .agg #[.int .i64 k, .int .i64 d, .int .i64 a, .int .i64 b, .int .i64 r3, .int .i64 n, .int .i64 g]] w fun x w' => Died 5 x ∧ Below w.heap.size w w' := by
  have HO := Lib.hid (fun (W : World) (V : Env W) => hu ▸ of_any k h1 h2 W V)
  have HV := Lib.hid V
  have lc := lt_cell K.c2
  have nc : c ≠ w.heap.size := by omega
  have nc' := nc.symm
  have lc1 : c < w.heap.size + 1 := by omega
  have Ha := Lib.hid ha
  clear ha
  have HG : Hid ((!(g == -1)) = false ∨ inR g U.regs) := Lib.hid (hg.elim (fun h => .inl (by simp [h])) .inr)
  clear hg
  have K0 := K.c0
  have K2 := K.c2
  have K4 := K.c4
  have K5 := K.c5
  have HK := Lib.hid KP
  obtain ⟨cl, hcl⟩ : ∃ cl, cl = classK k := ⟨_, rfl⟩
  obtain ⟨nm, hnm⟩ : ∃ nm, nm = nameK k := ⟨_, rfl⟩
  rw [← hcl, ← hnm] at HO
  clear hu K KP V hcl hnm
  have m1 : bits .and .i64 66 1 = 0 := by decide
  have m2 : bits .and .i64 66 2 = 2 := by decide
  have m4 : bits .and .i64 66 4 = 0 := by decide
  have m8 : bits .and .i64 66 8 = 0 := by decide
  have m16 : bits .and .i64 66 16 = 0 := by decide
  have m32 : bits .and .i64 66 32 = 0 := by decide
  have m64 : bits .and .i64 66 64 = 64 := by decide
  have m128 : bits .and .i64 66 128 = 0 := by decide
  have dz : decide (U.spill < 0) = false := decide_eq_false (by omega)
  have dn : (n < 0 ∧ decide (0 ≤ n) = false) ∨ (0 ≤ n ∧ decide (n < U.spill) = false) := hx.imp (fun h => ⟨h, decide_eq_false (by omega)⟩) fun h => ⟨by omega, decide_eq_false (by omega)⟩
  clear hx
  rcases dn with ⟨hx, hx2⟩ | ⟨hx, hx2⟩
  all_goals
    go_enter Tryd.func94, Tryd.ntmps94
    go_wp2_with (first
      | (go_at_call 111; refine (HO.out _ (HV.out.below ((Below.refl _ _).alloc (Nat.le_refl _) _))).mono ?_; rintro x w1 ⟨rfl, hb1⟩; have hbw := bel_box1 hb1; have E0 := keep1 hbw K0; have E2 := keep1 hbw K2; have E4 := keep1 hbw K4; have E5 := keep1 hbw K5; have EP := HK.out.below hbw; have xb0 := box1 hb1 0 (.int .i64 (k)) rfl; have xb1 := box1 hb1 1 (.int .i64 (d)) rfl; have xb2 := box1 hb1 2 (.int .i64 (a)) rfl; have xb3 := box1 hb1 3 (.int .i64 (b)) rfl; have xb4 := box1 hb1 4 (.int .i64 (r3)) rfl; have xb5 := box1 hb1 5 (.int .i64 (n)) rfl; have xb6 := box1 hb1 6 (.int .i64 (g)) rfl; have hsz := hbw.size; have ls1 := box_lt1 hb1; have nw : c ≠ w1.heap.size := ?nw; (case nw => omega); have nw' := nw.symm; have lw : c < w1.heap.size := ?nw; (case nw => omega); have nx : w.heap.size ≠ w1.heap.size := ?nw; (case nw => omega); have nx' := nx.symm; have HB := Lib.hid hbw; have HP := Lib.hid EP; clear hb1 hbw EP)
      | (go_at_call 112; (with_reducible refine (reg_ok (U := U) _ _ ?rg ?rc).mono ?_); (case rg => first | exact .inl rfl | exact .inr Ha.out | exact HG.out); (case rc => first | exact E2 | exact cellA E2 | (simp [*]; done)); rintro x w3 ⟨rfl, rfl⟩)
      | (go_at_call 91; (with_reducible refine (must_ok _ _ _).mono ?_); rintro x w3 ⟨rfl, rfl⟩)
      | (go_at_call 91; (with_reducible refine (must_bad (c := c) _ _ ?rd).mono ?_); (case rd => first | exact HP.out | exact HP.out.alloc _); rintro x w3 ⟨⟨b0, a0, rfl⟩, hb3⟩; have HB3 := Lib.hid hb3; clear hb3))
    exact ⟨rfl, ⟨_, _, rfl⟩, by first | exact (HB.out.alloc (Nat.le_of_lt ls1) _).trans (HB3.out.mono (by simp; omega)) | exact HB.out.trans (HB3.out.mono hsz)⟩

set_option maxRecDepth 100000 in
set_option maxHeartbeats 1000000 in
theorem opx_66_idled (k d a b r3 n g : Int) (hu : usesK k = 66) (h1 : 1 ≤ k) (h2 : k ≤ 25) (ha : inR a U.regs) (hg : g = -1 ∨ inR g U.regs) (hn : inR n U.spill) (hx : (d == 0) = false) (K : Ck w c U Av cv Ab cb) (KP : CkP w c) (V : Env w) (hz : U.sizes.length ≤ 16) (hbl : U.blocks.length ≤ 2000) (hsp : 0 ≤ U.spill) :
    Calls Tryd.prog 94 #[.pointer (some ⟨c, 0, none⟩), .agg #[.int .i64 k, .int .i64 d, .int .i64 a, .int .i64 b, .int .i64 r3, .int .i64 n, .int .i64 g]] w fun x w' => Died 4 x ∧ Below w.heap.size w w' := by
  have HO := Lib.hid (fun (W : World) (V : Env W) => hu ▸ of_any k h1 h2 W V)
  have HV := Lib.hid V
  have lc := lt_cell K.c2
  have nc : c ≠ w.heap.size := by omega
  have nc' := nc.symm
  have lc1 : c < w.heap.size + 1 := by omega
  have Ha := Lib.hid ha
  clear ha
  have HG : Hid ((!(g == -1)) = false ∨ inR g U.regs) := Lib.hid (hg.elim (fun h => .inl (by simp [h])) .inr)
  clear hg
  obtain ⟨n0, n1⟩ := hn
  have K0 := K.c0
  have K2 := K.c2
  have K4 := K.c4
  have K5 := K.c5
  have hx2 : (d != 0) = true := by simpa using hx
  have HK := Lib.hid KP
  obtain ⟨cl, hcl⟩ : ∃ cl, cl = classK k := ⟨_, rfl⟩
  obtain ⟨nm, hnm⟩ : ∃ nm, nm = nameK k := ⟨_, rfl⟩
  rw [← hcl, ← hnm] at HO
  clear hu K KP V hcl hnm
  have m1 : bits .and .i64 66 1 = 0 := by decide
  have m2 : bits .and .i64 66 2 = 2 := by decide
  have m4 : bits .and .i64 66 4 = 0 := by decide
  have m8 : bits .and .i64 66 8 = 0 := by decide
  have m16 : bits .and .i64 66 16 = 0 := by decide
  have m32 : bits .and .i64 66 32 = 0 := by decide
  have m64 : bits .and .i64 66 64 = 64 := by decide
  have m128 : bits .and .i64 66 128 = 0 := by decide
  go_enter Tryd.func94, Tryd.ntmps94
  go_wp2_with (first
      | (go_at_call 111; refine (HO.out _ (HV.out.below ((Below.refl _ _).alloc (Nat.le_refl _) _))).mono ?_; rintro x w1 ⟨rfl, hb1⟩; have hbw := bel_box1 hb1; have E0 := keep1 hbw K0; have E2 := keep1 hbw K2; have E4 := keep1 hbw K4; have E5 := keep1 hbw K5; have EP := HK.out.below hbw; have xb0 := box1 hb1 0 (.int .i64 (k)) rfl; have xb1 := box1 hb1 1 (.int .i64 (d)) rfl; have xb2 := box1 hb1 2 (.int .i64 (a)) rfl; have xb3 := box1 hb1 3 (.int .i64 (b)) rfl; have xb4 := box1 hb1 4 (.int .i64 (r3)) rfl; have xb5 := box1 hb1 5 (.int .i64 (n)) rfl; have xb6 := box1 hb1 6 (.int .i64 (g)) rfl; have hsz := hbw.size; have ls1 := box_lt1 hb1; have nw : c ≠ w1.heap.size := ?nw; (case nw => omega); have nw' := nw.symm; have lw : c < w1.heap.size := ?nw; (case nw => omega); have nx : w.heap.size ≠ w1.heap.size := ?nw; (case nw => omega); have nx' := nx.symm; have HB := Lib.hid hbw; have HP := Lib.hid EP; clear hb1 hbw EP)
      | (go_at_call 112; (with_reducible refine (reg_ok (U := U) _ _ ?rg ?rc).mono ?_); (case rg => first | exact .inl rfl | exact .inr Ha.out | exact HG.out); (case rc => first | exact E2 | exact cellA E2 | (simp [*]; done)); rintro x w3 ⟨rfl, rfl⟩)
      | (go_at_call 91; (with_reducible refine (must_ok _ _ _).mono ?_); rintro x w3 ⟨rfl, rfl⟩)
      | (go_at_call 91; (with_reducible refine (must_bad (c := c) _ _ ?rd).mono ?_); (case rd => first | exact HP.out | exact HP.out.alloc _); rintro x w3 ⟨⟨b0, a0, rfl⟩, hb3⟩; have HB3 := Lib.hid hb3; clear hb3))
  exact ⟨rfl, ⟨_, _, rfl⟩, by first | exact (HB.out.alloc (Nat.le_of_lt ls1) _).trans (HB3.out.mono (by simp; omega)) | exact HB.out.trans (HB3.out.mono hsz)⟩

set_option maxRecDepth 100000 in
set_option maxHeartbeats 1000000 in
theorem opx_66_idleb (k a b r3 n g : Int) (hu : usesK k = 66) (h1 : 1 ≤ k) (h2 : k ≤ 25) (ha : inR a U.regs) (hg : g = -1 ∨ inR g U.regs) (hn : inR n U.spill) (hx : (b == 0) = false) (K : Ck w c U Av cv Ab cb) (KP : CkP w c) (V : Env w) (hz : U.sizes.length ≤ 16) (hbl : U.blocks.length ≤ 2000) (hsp : 0 ≤ U.spill) :
    Calls Tryd.prog 94 #[.pointer (some ⟨c, 0, none⟩), .agg #[.int .i64 k, .int .i64 0, .int .i64 a, .int .i64 b, .int .i64 r3, .int .i64 n, .int .i64 g]] w fun x w' => Died 4 x ∧ Below w.heap.size w w' := by
  have HO := Lib.hid (fun (W : World) (V : Env W) => hu ▸ of_any k h1 h2 W V)
  have HV := Lib.hid V
  have lc := lt_cell K.c2
  have nc : c ≠ w.heap.size := by omega
  have nc' := nc.symm
  have lc1 : c < w.heap.size + 1 := by omega
  have Ha := Lib.hid ha
  clear ha
  have HG : Hid ((!(g == -1)) = false ∨ inR g U.regs) := Lib.hid (hg.elim (fun h => .inl (by simp [h])) .inr)
  clear hg
  obtain ⟨n0, n1⟩ := hn
  have K0 := K.c0
  have K2 := K.c2
  have K4 := K.c4
  have K5 := K.c5
  have hx2 : (b != 0) = true := by simpa using hx
  have HK := Lib.hid KP
  obtain ⟨cl, hcl⟩ : ∃ cl, cl = classK k := ⟨_, rfl⟩
  obtain ⟨nm, hnm⟩ : ∃ nm, nm = nameK k := ⟨_, rfl⟩
  rw [← hcl, ← hnm] at HO
  clear hu K KP V hcl hnm
  have m1 : bits .and .i64 66 1 = 0 := by decide
  have m2 : bits .and .i64 66 2 = 2 := by decide
  have m4 : bits .and .i64 66 4 = 0 := by decide
  have m8 : bits .and .i64 66 8 = 0 := by decide
  have m16 : bits .and .i64 66 16 = 0 := by decide
  have m32 : bits .and .i64 66 32 = 0 := by decide
  have m64 : bits .and .i64 66 64 = 64 := by decide
  have m128 : bits .and .i64 66 128 = 0 := by decide
  go_enter Tryd.func94, Tryd.ntmps94
  go_wp2_with (first
      | (go_at_call 111; refine (HO.out _ (HV.out.below ((Below.refl _ _).alloc (Nat.le_refl _) _))).mono ?_; rintro x w1 ⟨rfl, hb1⟩; have hbw := bel_box1 hb1; have E0 := keep1 hbw K0; have E2 := keep1 hbw K2; have E4 := keep1 hbw K4; have E5 := keep1 hbw K5; have EP := HK.out.below hbw; have xb0 := box1 hb1 0 (.int .i64 (k)) rfl; have xb1 := box1 hb1 1 (.int .i64 (0)) rfl; have xb2 := box1 hb1 2 (.int .i64 (a)) rfl; have xb3 := box1 hb1 3 (.int .i64 (b)) rfl; have xb4 := box1 hb1 4 (.int .i64 (r3)) rfl; have xb5 := box1 hb1 5 (.int .i64 (n)) rfl; have xb6 := box1 hb1 6 (.int .i64 (g)) rfl; have hsz := hbw.size; have ls1 := box_lt1 hb1; have nw : c ≠ w1.heap.size := ?nw; (case nw => omega); have nw' := nw.symm; have lw : c < w1.heap.size := ?nw; (case nw => omega); have nx : w.heap.size ≠ w1.heap.size := ?nw; (case nw => omega); have nx' := nx.symm; have HB := Lib.hid hbw; have HP := Lib.hid EP; clear hb1 hbw EP)
      | (go_at_call 112; (with_reducible refine (reg_ok (U := U) _ _ ?rg ?rc).mono ?_); (case rg => first | exact .inl rfl | exact .inr Ha.out | exact HG.out); (case rc => first | exact E2 | exact cellA E2 | (simp [*]; done)); rintro x w3 ⟨rfl, rfl⟩)
      | (go_at_call 91; (with_reducible refine (must_ok _ _ _).mono ?_); rintro x w3 ⟨rfl, rfl⟩)
      | (go_at_call 91; (with_reducible refine (must_bad (c := c) _ _ ?rd).mono ?_); (case rd => first | exact HP.out | exact HP.out.alloc _); rintro x w3 ⟨⟨b0, a0, rfl⟩, hb3⟩; have HB3 := Lib.hid hb3; clear hb3))
  exact ⟨rfl, ⟨_, _, rfl⟩, by first | exact (HB.out.alloc (Nat.le_of_lt ls1) _).trans (HB3.out.mono (by simp; omega)) | exact HB.out.trans (HB3.out.mono hsz)⟩

set_option maxRecDepth 100000 in
set_option maxHeartbeats 1000000 in
theorem opx_66_idlec (k a r3 n g : Int) (hu : usesK k = 66) (h1 : 1 ≤ k) (h2 : k ≤ 25) (ha : inR a U.regs) (hg : g = -1 ∨ inR g U.regs) (hn : inR n U.spill) (hx : (r3 == 0) = false) (K : Ck w c U Av cv Ab cb) (KP : CkP w c) (V : Env w) (hz : U.sizes.length ≤ 16) (hbl : U.blocks.length ≤ 2000) (hsp : 0 ≤ U.spill) :
    Calls Tryd.prog 94 #[.pointer (some ⟨c, 0, none⟩), .agg #[.int .i64 k, .int .i64 0, .int .i64 a, .int .i64 0, .int .i64 r3, .int .i64 n, .int .i64 g]] w fun x w' => Died 4 x ∧ Below w.heap.size w w' := by
  have HO := Lib.hid (fun (W : World) (V : Env W) => hu ▸ of_any k h1 h2 W V)
  have HV := Lib.hid V
  have lc := lt_cell K.c2
  have nc : c ≠ w.heap.size := by omega
  have nc' := nc.symm
  have lc1 : c < w.heap.size + 1 := by omega
  have Ha := Lib.hid ha
  clear ha
  have HG : Hid ((!(g == -1)) = false ∨ inR g U.regs) := Lib.hid (hg.elim (fun h => .inl (by simp [h])) .inr)
  clear hg
  obtain ⟨n0, n1⟩ := hn
  have K0 := K.c0
  have K2 := K.c2
  have K4 := K.c4
  have K5 := K.c5
  have hx2 : (r3 != 0) = true := by simpa using hx
  have HK := Lib.hid KP
  obtain ⟨cl, hcl⟩ : ∃ cl, cl = classK k := ⟨_, rfl⟩
  obtain ⟨nm, hnm⟩ : ∃ nm, nm = nameK k := ⟨_, rfl⟩
  rw [← hcl, ← hnm] at HO
  clear hu K KP V hcl hnm
  have m1 : bits .and .i64 66 1 = 0 := by decide
  have m2 : bits .and .i64 66 2 = 2 := by decide
  have m4 : bits .and .i64 66 4 = 0 := by decide
  have m8 : bits .and .i64 66 8 = 0 := by decide
  have m16 : bits .and .i64 66 16 = 0 := by decide
  have m32 : bits .and .i64 66 32 = 0 := by decide
  have m64 : bits .and .i64 66 64 = 64 := by decide
  have m128 : bits .and .i64 66 128 = 0 := by decide
  go_enter Tryd.func94, Tryd.ntmps94
  go_wp2_with (first
      | (go_at_call 111; refine (HO.out _ (HV.out.below ((Below.refl _ _).alloc (Nat.le_refl _) _))).mono ?_; rintro x w1 ⟨rfl, hb1⟩; have hbw := bel_box1 hb1; have E0 := keep1 hbw K0; have E2 := keep1 hbw K2; have E4 := keep1 hbw K4; have E5 := keep1 hbw K5; have EP := HK.out.below hbw; have xb0 := box1 hb1 0 (.int .i64 (k)) rfl; have xb1 := box1 hb1 1 (.int .i64 (0)) rfl; have xb2 := box1 hb1 2 (.int .i64 (a)) rfl; have xb3 := box1 hb1 3 (.int .i64 (0)) rfl; have xb4 := box1 hb1 4 (.int .i64 (r3)) rfl; have xb5 := box1 hb1 5 (.int .i64 (n)) rfl; have xb6 := box1 hb1 6 (.int .i64 (g)) rfl; have hsz := hbw.size; have ls1 := box_lt1 hb1; have nw : c ≠ w1.heap.size := ?nw; (case nw => omega); have nw' := nw.symm; have lw : c < w1.heap.size := ?nw; (case nw => omega); have nx : w.heap.size ≠ w1.heap.size := ?nw; (case nw => omega); have nx' := nx.symm; have HB := Lib.hid hbw; have HP := Lib.hid EP; clear hb1 hbw EP)
      | (go_at_call 112; (with_reducible refine (reg_ok (U := U) _ _ ?rg ?rc).mono ?_); (case rg => first | exact .inl rfl | exact .inr Ha.out | exact HG.out); (case rc => first | exact E2 | exact cellA E2 | (simp [*]; done)); rintro x w3 ⟨rfl, rfl⟩)
      | (go_at_call 91; (with_reducible refine (must_ok _ _ _).mono ?_); rintro x w3 ⟨rfl, rfl⟩)
      | (go_at_call 91; (with_reducible refine (must_bad (c := c) _ _ ?rd).mono ?_); (case rd => first | exact HP.out | exact HP.out.alloc _); rintro x w3 ⟨⟨b0, a0, rfl⟩, hb3⟩; have HB3 := Lib.hid hb3; clear hb3))
  exact ⟨rfl, ⟨_, _, rfl⟩, by first | exact (HB.out.alloc (Nat.le_of_lt ls1) _).trans (HB3.out.mono (by simp; omega)) | exact HB.out.trans (HB3.out.mono hsz)⟩

set_option maxRecDepth 100000 in
set_option maxHeartbeats 1000000 in
theorem opx_2_rega (k d a b r3 n g : Int) (hu : usesK k = 2) (h1 : 1 ≤ k) (h2 : k ≤ 25) (hx : ¬ inR a U.regs) (K : Ck w c U Av cv Ab cb) (KP : CkP w c) (V : Env w) (hz : U.sizes.length ≤ 16) (hbl : U.blocks.length ≤ 2000) (hsp : 0 ≤ U.spill) :
    Calls Tryd.prog 94 #[.pointer (some ⟨c, 0, none⟩), .agg #[.int .i64 k, .int .i64 d, .int .i64 a, .int .i64 b, .int .i64 r3, .int .i64 n, .int .i64 g]] w fun x w' => Died 2 x ∧ Below w.heap.size w w' := by
  have HO := Lib.hid (fun (W : World) (V : Env W) => hu ▸ of_any k h1 h2 W V)
  have HV := Lib.hid V
  have lc := lt_cell K.c2
  have nc : c ≠ w.heap.size := by omega
  have nc' := nc.symm
  have lc1 : c < w.heap.size + 1 := by omega
  have HX := Lib.hid hx
  clear hx
  have K0 := K.c0
  have K2 := K.c2
  have K4 := K.c4
  have K5 := K.c5
  have HK := Lib.hid KP
  obtain ⟨cl, hcl⟩ : ∃ cl, cl = classK k := ⟨_, rfl⟩
  obtain ⟨nm, hnm⟩ : ∃ nm, nm = nameK k := ⟨_, rfl⟩
  rw [← hcl, ← hnm] at HO
  clear hu K KP V hcl hnm
  have m1 : bits .and .i64 2 1 = 0 := by decide
  have m2 : bits .and .i64 2 2 = 2 := by decide
  have m4 : bits .and .i64 2 4 = 0 := by decide
  have m8 : bits .and .i64 2 8 = 0 := by decide
  have m16 : bits .and .i64 2 16 = 0 := by decide
  have m32 : bits .and .i64 2 32 = 0 := by decide
  have m64 : bits .and .i64 2 64 = 0 := by decide
  have m128 : bits .and .i64 2 128 = 0 := by decide
  go_enter Tryd.func94, Tryd.ntmps94
  go_wp2_with (first
      | (go_at_call 111; refine (HO.out _ (HV.out.below ((Below.refl _ _).alloc (Nat.le_refl _) _))).mono ?_; rintro x w1 ⟨rfl, hb1⟩; have hbw := bel_box1 hb1; have E0 := keep1 hbw K0; have E2 := keep1 hbw K2; have E4 := keep1 hbw K4; have E5 := keep1 hbw K5; have EP := HK.out.below hbw; have xb0 := box1 hb1 0 (.int .i64 (k)) rfl; have xb1 := box1 hb1 1 (.int .i64 (d)) rfl; have xb2 := box1 hb1 2 (.int .i64 (a)) rfl; have xb3 := box1 hb1 3 (.int .i64 (b)) rfl; have xb4 := box1 hb1 4 (.int .i64 (r3)) rfl; have xb5 := box1 hb1 5 (.int .i64 (n)) rfl; have xb6 := box1 hb1 6 (.int .i64 (g)) rfl; have hsz := hbw.size; have ls1 := box_lt1 hb1; have nw : c ≠ w1.heap.size := ?nw; (case nw => omega); have nw' := nw.symm; have lw : c < w1.heap.size := ?nw; (case nw => omega); have nx : w.heap.size ≠ w1.heap.size := ?nw; (case nw => omega); have nx' := nx.symm; have HB := Lib.hid hbw; have HP := Lib.hid EP; clear hb1 hbw EP)
      | (go_at_call 112; (with_reducible refine (reg_ok (U := U) _ _ ?rg ?rc).mono ?_); (case rg => first | exact .inl rfl); (case rc => first | exact E2 | exact cellA E2 | (simp [*]; done)); rintro x w3 ⟨rfl, rfl⟩)
      | (go_at_call 112; (with_reducible refine (reg_bad (U := U) _ HX.out ?rc ?rd).mono ?_); (case rc => first | exact E2 | exact cellA E2 | (simp [*]; done)); (case rd => first | exact HP.out | exact HP.out.alloc _); rintro x w3 ⟨⟨b0, a0, rfl⟩, hb3⟩; have HB3 := Lib.hid hb3; clear hb3)
      | (go_at_call 91; (with_reducible refine (must_ok _ _ _).mono ?_); rintro x w3 ⟨rfl, rfl⟩))
  exact ⟨rfl, ⟨_, _, rfl⟩, by first | exact (HB.out.alloc (Nat.le_of_lt ls1) _).trans (HB3.out.mono (by simp; omega)) | exact HB.out.trans (HB3.out.mono hsz)⟩

set_option maxRecDepth 100000 in
set_option maxHeartbeats 1000000 in
theorem opx_2_gg (k d a b r3 n g : Int) (hu : usesK k = 2) (h1 : 1 ≤ k) (h2 : k ≤ 25) (ha : inR a U.regs) (hx0 : g ≠ -1) (hx : ¬ inR g U.regs) (K : Ck w c U Av cv Ab cb) (KP : CkP w c) (V : Env w) (hz : U.sizes.length ≤ 16) (hbl : U.blocks.length ≤ 2000) (hsp : 0 ≤ U.spill) :
    Calls Tryd.prog 94 #[.pointer (some ⟨c, 0, none⟩), .agg #[.int .i64 k, .int .i64 d, .int .i64 a, .int .i64 b, .int .i64 r3, .int .i64 n, .int .i64 g]] w fun x w' => Died 2 x ∧ Below w.heap.size w w' := by
  have HO := Lib.hid (fun (W : World) (V : Env W) => hu ▸ of_any k h1 h2 W V)
  have HV := Lib.hid V
  have lc := lt_cell K.c2
  have nc : c ≠ w.heap.size := by omega
  have nc' := nc.symm
  have lc1 : c < w.heap.size + 1 := by omega
  have Ha := Lib.hid ha
  clear ha
  have HX := Lib.hid hx
  clear hx
  have hgb : (g == -1) = false := by simpa using hx0
  have hgb2 : (g != -1) = true := by simpa using hx0
  clear hx0
  have K0 := K.c0
  have K2 := K.c2
  have K4 := K.c4
  have K5 := K.c5
  have HK := Lib.hid KP
  obtain ⟨cl, hcl⟩ : ∃ cl, cl = classK k := ⟨_, rfl⟩
  obtain ⟨nm, hnm⟩ : ∃ nm, nm = nameK k := ⟨_, rfl⟩
  rw [← hcl, ← hnm] at HO
  clear hu K KP V hcl hnm
  have m1 : bits .and .i64 2 1 = 0 := by decide
  have m2 : bits .and .i64 2 2 = 2 := by decide
  have m4 : bits .and .i64 2 4 = 0 := by decide
  have m8 : bits .and .i64 2 8 = 0 := by decide
  have m16 : bits .and .i64 2 16 = 0 := by decide
  have m32 : bits .and .i64 2 32 = 0 := by decide
  have m64 : bits .and .i64 2 64 = 0 := by decide
  have m128 : bits .and .i64 2 128 = 0 := by decide
  go_enter Tryd.func94, Tryd.ntmps94
  go_wp2_with (first
      | (go_at_call 111; refine (HO.out _ (HV.out.below ((Below.refl _ _).alloc (Nat.le_refl _) _))).mono ?_; rintro x w1 ⟨rfl, hb1⟩; have hbw := bel_box1 hb1; have E0 := keep1 hbw K0; have E2 := keep1 hbw K2; have E4 := keep1 hbw K4; have E5 := keep1 hbw K5; have EP := HK.out.below hbw; have xb0 := box1 hb1 0 (.int .i64 (k)) rfl; have xb1 := box1 hb1 1 (.int .i64 (d)) rfl; have xb2 := box1 hb1 2 (.int .i64 (a)) rfl; have xb3 := box1 hb1 3 (.int .i64 (b)) rfl; have xb4 := box1 hb1 4 (.int .i64 (r3)) rfl; have xb5 := box1 hb1 5 (.int .i64 (n)) rfl; have xb6 := box1 hb1 6 (.int .i64 (g)) rfl; have hsz := hbw.size; have ls1 := box_lt1 hb1; have nw : c ≠ w1.heap.size := ?nw; (case nw => omega); have nw' := nw.symm; have lw : c < w1.heap.size := ?nw; (case nw => omega); have nx : w.heap.size ≠ w1.heap.size := ?nw; (case nw => omega); have nx' := nx.symm; have HB := Lib.hid hbw; have HP := Lib.hid EP; clear hb1 hbw EP)
      | (go_at_call 112; (with_reducible refine (reg_ok (U := U) _ _ ?rg ?rc).mono ?_); (case rg => first | exact .inl rfl | exact .inr Ha.out); (case rc => first | exact E2 | exact cellA E2 | (simp [*]; done)); rintro x w3 ⟨rfl, rfl⟩)
      | (go_at_call 112; (with_reducible refine (reg_bad (U := U) _ HX.out ?rc ?rd).mono ?_); (case rc => first | exact E2 | exact cellA E2 | (simp [*]; done)); (case rd => first | exact HP.out | exact HP.out.alloc _); rintro x w3 ⟨⟨b0, a0, rfl⟩, hb3⟩; have HB3 := Lib.hid hb3; clear hb3)
      | (go_at_call 91; (with_reducible refine (must_ok _ _ _).mono ?_); rintro x w3 ⟨rfl, rfl⟩))
  exact ⟨rfl, ⟨_, _, rfl⟩, by first | exact (HB.out.alloc (Nat.le_of_lt ls1) _).trans (HB3.out.mono (by simp; omega)) | exact HB.out.trans (HB3.out.mono hsz)⟩

set_option maxRecDepth 100000 in
set_option maxHeartbeats 1000000 in
theorem opx_2_idled (k d a b r3 n g : Int) (hu : usesK k = 2) (h1 : 1 ≤ k) (h2 : k ≤ 25) (ha : inR a U.regs) (hg : g = -1 ∨ inR g U.regs) (hx : (d == 0) = false) (K : Ck w c U Av cv Ab cb) (KP : CkP w c) (V : Env w) (hz : U.sizes.length ≤ 16) (hbl : U.blocks.length ≤ 2000) (hsp : 0 ≤ U.spill) :
    Calls Tryd.prog 94 #[.pointer (some ⟨c, 0, none⟩), .agg #[.int .i64 k, .int .i64 d, .int .i64 a, .int .i64 b, .int .i64 r3, .int .i64 n, .int .i64 g]] w fun x w' => Died 4 x ∧ Below w.heap.size w w' := by
  have HO := Lib.hid (fun (W : World) (V : Env W) => hu ▸ of_any k h1 h2 W V)
  have HV := Lib.hid V
  have lc := lt_cell K.c2
  have nc : c ≠ w.heap.size := by omega
  have nc' := nc.symm
  have lc1 : c < w.heap.size + 1 := by omega
  have Ha := Lib.hid ha
  clear ha
  have HG : Hid ((!(g == -1)) = false ∨ inR g U.regs) := Lib.hid (hg.elim (fun h => .inl (by simp [h])) .inr)
  clear hg
  have K0 := K.c0
  have K2 := K.c2
  have K4 := K.c4
  have K5 := K.c5
  have hx2 : (d != 0) = true := by simpa using hx
  have HK := Lib.hid KP
  obtain ⟨cl, hcl⟩ : ∃ cl, cl = classK k := ⟨_, rfl⟩
  obtain ⟨nm, hnm⟩ : ∃ nm, nm = nameK k := ⟨_, rfl⟩
  rw [← hcl, ← hnm] at HO
  clear hu K KP V hcl hnm
  have m1 : bits .and .i64 2 1 = 0 := by decide
  have m2 : bits .and .i64 2 2 = 2 := by decide
  have m4 : bits .and .i64 2 4 = 0 := by decide
  have m8 : bits .and .i64 2 8 = 0 := by decide
  have m16 : bits .and .i64 2 16 = 0 := by decide
  have m32 : bits .and .i64 2 32 = 0 := by decide
  have m64 : bits .and .i64 2 64 = 0 := by decide
  have m128 : bits .and .i64 2 128 = 0 := by decide
  go_enter Tryd.func94, Tryd.ntmps94
  go_wp2_with (first
      | (go_at_call 111; refine (HO.out _ (HV.out.below ((Below.refl _ _).alloc (Nat.le_refl _) _))).mono ?_; rintro x w1 ⟨rfl, hb1⟩; have hbw := bel_box1 hb1; have E0 := keep1 hbw K0; have E2 := keep1 hbw K2; have E4 := keep1 hbw K4; have E5 := keep1 hbw K5; have EP := HK.out.below hbw; have xb0 := box1 hb1 0 (.int .i64 (k)) rfl; have xb1 := box1 hb1 1 (.int .i64 (d)) rfl; have xb2 := box1 hb1 2 (.int .i64 (a)) rfl; have xb3 := box1 hb1 3 (.int .i64 (b)) rfl; have xb4 := box1 hb1 4 (.int .i64 (r3)) rfl; have xb5 := box1 hb1 5 (.int .i64 (n)) rfl; have xb6 := box1 hb1 6 (.int .i64 (g)) rfl; have hsz := hbw.size; have ls1 := box_lt1 hb1; have nw : c ≠ w1.heap.size := ?nw; (case nw => omega); have nw' := nw.symm; have lw : c < w1.heap.size := ?nw; (case nw => omega); have nx : w.heap.size ≠ w1.heap.size := ?nw; (case nw => omega); have nx' := nx.symm; have HB := Lib.hid hbw; have HP := Lib.hid EP; clear hb1 hbw EP)
      | (go_at_call 112; (with_reducible refine (reg_ok (U := U) _ _ ?rg ?rc).mono ?_); (case rg => first | exact .inl rfl | exact .inr Ha.out | exact HG.out); (case rc => first | exact E2 | exact cellA E2 | (simp [*]; done)); rintro x w3 ⟨rfl, rfl⟩)
      | (go_at_call 91; (with_reducible refine (must_ok _ _ _).mono ?_); rintro x w3 ⟨rfl, rfl⟩)
      | (go_at_call 91; (with_reducible refine (must_bad (c := c) _ _ ?rd).mono ?_); (case rd => first | exact HP.out | exact HP.out.alloc _); rintro x w3 ⟨⟨b0, a0, rfl⟩, hb3⟩; have HB3 := Lib.hid hb3; clear hb3))
  exact ⟨rfl, ⟨_, _, rfl⟩, by first | exact (HB.out.alloc (Nat.le_of_lt ls1) _).trans (HB3.out.mono (by simp; omega)) | exact HB.out.trans (HB3.out.mono hsz)⟩

set_option maxRecDepth 100000 in
set_option maxHeartbeats 1000000 in
theorem opx_2_idleb (k a b r3 n g : Int) (hu : usesK k = 2) (h1 : 1 ≤ k) (h2 : k ≤ 25) (ha : inR a U.regs) (hg : g = -1 ∨ inR g U.regs) (hx : (b == 0) = false) (K : Ck w c U Av cv Ab cb) (KP : CkP w c) (V : Env w) (hz : U.sizes.length ≤ 16) (hbl : U.blocks.length ≤ 2000) (hsp : 0 ≤ U.spill) :
    Calls Tryd.prog 94 #[.pointer (some ⟨c, 0, none⟩), .agg #[.int .i64 k, .int .i64 0, .int .i64 a, .int .i64 b, .int .i64 r3, .int .i64 n, .int .i64 g]] w fun x w' => Died 4 x ∧ Below w.heap.size w w' := by
  have HO := Lib.hid (fun (W : World) (V : Env W) => hu ▸ of_any k h1 h2 W V)
  have HV := Lib.hid V
  have lc := lt_cell K.c2
  have nc : c ≠ w.heap.size := by omega
  have nc' := nc.symm
  have lc1 : c < w.heap.size + 1 := by omega
  have Ha := Lib.hid ha
  clear ha
  have HG : Hid ((!(g == -1)) = false ∨ inR g U.regs) := Lib.hid (hg.elim (fun h => .inl (by simp [h])) .inr)
  clear hg
  have K0 := K.c0
  have K2 := K.c2
  have K4 := K.c4
  have K5 := K.c5
  have hx2 : (b != 0) = true := by simpa using hx
  have HK := Lib.hid KP
  obtain ⟨cl, hcl⟩ : ∃ cl, cl = classK k := ⟨_, rfl⟩
  obtain ⟨nm, hnm⟩ : ∃ nm, nm = nameK k := ⟨_, rfl⟩
  rw [← hcl, ← hnm] at HO
  clear hu K KP V hcl hnm
  have m1 : bits .and .i64 2 1 = 0 := by decide
  have m2 : bits .and .i64 2 2 = 2 := by decide
  have m4 : bits .and .i64 2 4 = 0 := by decide
  have m8 : bits .and .i64 2 8 = 0 := by decide
  have m16 : bits .and .i64 2 16 = 0 := by decide
  have m32 : bits .and .i64 2 32 = 0 := by decide
  have m64 : bits .and .i64 2 64 = 0 := by decide
  have m128 : bits .and .i64 2 128 = 0 := by decide
  go_enter Tryd.func94, Tryd.ntmps94
  go_wp2_with (first
      | (go_at_call 111; refine (HO.out _ (HV.out.below ((Below.refl _ _).alloc (Nat.le_refl _) _))).mono ?_; rintro x w1 ⟨rfl, hb1⟩; have hbw := bel_box1 hb1; have E0 := keep1 hbw K0; have E2 := keep1 hbw K2; have E4 := keep1 hbw K4; have E5 := keep1 hbw K5; have EP := HK.out.below hbw; have xb0 := box1 hb1 0 (.int .i64 (k)) rfl; have xb1 := box1 hb1 1 (.int .i64 (0)) rfl; have xb2 := box1 hb1 2 (.int .i64 (a)) rfl; have xb3 := box1 hb1 3 (.int .i64 (b)) rfl; have xb4 := box1 hb1 4 (.int .i64 (r3)) rfl; have xb5 := box1 hb1 5 (.int .i64 (n)) rfl; have xb6 := box1 hb1 6 (.int .i64 (g)) rfl; have hsz := hbw.size; have ls1 := box_lt1 hb1; have nw : c ≠ w1.heap.size := ?nw; (case nw => omega); have nw' := nw.symm; have lw : c < w1.heap.size := ?nw; (case nw => omega); have nx : w.heap.size ≠ w1.heap.size := ?nw; (case nw => omega); have nx' := nx.symm; have HB := Lib.hid hbw; have HP := Lib.hid EP; clear hb1 hbw EP)
      | (go_at_call 112; (with_reducible refine (reg_ok (U := U) _ _ ?rg ?rc).mono ?_); (case rg => first | exact .inl rfl | exact .inr Ha.out | exact HG.out); (case rc => first | exact E2 | exact cellA E2 | (simp [*]; done)); rintro x w3 ⟨rfl, rfl⟩)
      | (go_at_call 91; (with_reducible refine (must_ok _ _ _).mono ?_); rintro x w3 ⟨rfl, rfl⟩)
      | (go_at_call 91; (with_reducible refine (must_bad (c := c) _ _ ?rd).mono ?_); (case rd => first | exact HP.out | exact HP.out.alloc _); rintro x w3 ⟨⟨b0, a0, rfl⟩, hb3⟩; have HB3 := Lib.hid hb3; clear hb3))
  exact ⟨rfl, ⟨_, _, rfl⟩, by first | exact (HB.out.alloc (Nat.le_of_lt ls1) _).trans (HB3.out.mono (by simp; omega)) | exact HB.out.trans (HB3.out.mono hsz)⟩

set_option maxRecDepth 100000 in
set_option maxHeartbeats 1000000 in
theorem opx_2_idlec (k a r3 n g : Int) (hu : usesK k = 2) (h1 : 1 ≤ k) (h2 : k ≤ 25) (ha : inR a U.regs) (hg : g = -1 ∨ inR g U.regs) (hx : (r3 == 0) = false) (K : Ck w c U Av cv Ab cb) (KP : CkP w c) (V : Env w) (hz : U.sizes.length ≤ 16) (hbl : U.blocks.length ≤ 2000) (hsp : 0 ≤ U.spill) :
    Calls Tryd.prog 94 #[.pointer (some ⟨c, 0, none⟩), .agg #[.int .i64 k, .int .i64 0, .int .i64 a, .int .i64 0, .int .i64 r3, .int .i64 n, .int .i64 g]] w fun x w' => Died 4 x ∧ Below w.heap.size w w' := by
  have HO := Lib.hid (fun (W : World) (V : Env W) => hu ▸ of_any k h1 h2 W V)
  have HV := Lib.hid V
  have lc := lt_cell K.c2
  have nc : c ≠ w.heap.size := by omega
  have nc' := nc.symm
  have lc1 : c < w.heap.size + 1 := by omega
  have Ha := Lib.hid ha
  clear ha
  have HG : Hid ((!(g == -1)) = false ∨ inR g U.regs) := Lib.hid (hg.elim (fun h => .inl (by simp [h])) .inr)
  clear hg
  have K0 := K.c0
  have K2 := K.c2
  have K4 := K.c4
  have K5 := K.c5
  have hx2 : (r3 != 0) = true := by simpa using hx
  have HK := Lib.hid KP
  obtain ⟨cl, hcl⟩ : ∃ cl, cl = classK k := ⟨_, rfl⟩
  obtain ⟨nm, hnm⟩ : ∃ nm, nm = nameK k := ⟨_, rfl⟩
  rw [← hcl, ← hnm] at HO
  clear hu K KP V hcl hnm
  have m1 : bits .and .i64 2 1 = 0 := by decide
  have m2 : bits .and .i64 2 2 = 2 := by decide
  have m4 : bits .and .i64 2 4 = 0 := by decide
  have m8 : bits .and .i64 2 8 = 0 := by decide
  have m16 : bits .and .i64 2 16 = 0 := by decide
  have m32 : bits .and .i64 2 32 = 0 := by decide
  have m64 : bits .and .i64 2 64 = 0 := by decide
  have m128 : bits .and .i64 2 128 = 0 := by decide
  go_enter Tryd.func94, Tryd.ntmps94
  go_wp2_with (first
      | (go_at_call 111; refine (HO.out _ (HV.out.below ((Below.refl _ _).alloc (Nat.le_refl _) _))).mono ?_; rintro x w1 ⟨rfl, hb1⟩; have hbw := bel_box1 hb1; have E0 := keep1 hbw K0; have E2 := keep1 hbw K2; have E4 := keep1 hbw K4; have E5 := keep1 hbw K5; have EP := HK.out.below hbw; have xb0 := box1 hb1 0 (.int .i64 (k)) rfl; have xb1 := box1 hb1 1 (.int .i64 (0)) rfl; have xb2 := box1 hb1 2 (.int .i64 (a)) rfl; have xb3 := box1 hb1 3 (.int .i64 (0)) rfl; have xb4 := box1 hb1 4 (.int .i64 (r3)) rfl; have xb5 := box1 hb1 5 (.int .i64 (n)) rfl; have xb6 := box1 hb1 6 (.int .i64 (g)) rfl; have hsz := hbw.size; have ls1 := box_lt1 hb1; have nw : c ≠ w1.heap.size := ?nw; (case nw => omega); have nw' := nw.symm; have lw : c < w1.heap.size := ?nw; (case nw => omega); have nx : w.heap.size ≠ w1.heap.size := ?nw; (case nw => omega); have nx' := nx.symm; have HB := Lib.hid hbw; have HP := Lib.hid EP; clear hb1 hbw EP)
      | (go_at_call 112; (with_reducible refine (reg_ok (U := U) _ _ ?rg ?rc).mono ?_); (case rg => first | exact .inl rfl | exact .inr Ha.out | exact HG.out); (case rc => first | exact E2 | exact cellA E2 | (simp [*]; done)); rintro x w3 ⟨rfl, rfl⟩)
      | (go_at_call 91; (with_reducible refine (must_ok _ _ _).mono ?_); rintro x w3 ⟨rfl, rfl⟩)
      | (go_at_call 91; (with_reducible refine (must_bad (c := c) _ _ ?rd).mono ?_); (case rd => first | exact HP.out | exact HP.out.alloc _); rintro x w3 ⟨⟨b0, a0, rfl⟩, hb3⟩; have HB3 := Lib.hid hb3; clear hb3))
  exact ⟨rfl, ⟨_, _, rfl⟩, by first | exact (HB.out.alloc (Nat.le_of_lt ls1) _).trans (HB3.out.mono (by simp; omega)) | exact HB.out.trans (HB3.out.mono hsz)⟩

set_option maxRecDepth 100000 in
set_option maxHeartbeats 1000000 in
theorem opx_2_idlen (k a n g : Int) (hu : usesK k = 2) (h1 : 1 ≤ k) (h2 : k ≤ 25) (ha : inR a U.regs) (hg : g = -1 ∨ inR g U.regs) (hx : (n == 0) = false) (K : Ck w c U Av cv Ab cb) (KP : CkP w c) (V : Env w) (hz : U.sizes.length ≤ 16) (hbl : U.blocks.length ≤ 2000) (hsp : 0 ≤ U.spill) :
    Calls Tryd.prog 94 #[.pointer (some ⟨c, 0, none⟩), .agg #[.int .i64 k, .int .i64 0, .int .i64 a, .int .i64 0, .int .i64 0, .int .i64 n, .int .i64 g]] w fun x w' => Died 4 x ∧ Below w.heap.size w w' := by
  have HO := Lib.hid (fun (W : World) (V : Env W) => hu ▸ of_any k h1 h2 W V)
  have HV := Lib.hid V
  have lc := lt_cell K.c2
  have nc : c ≠ w.heap.size := by omega
  have nc' := nc.symm
  have lc1 : c < w.heap.size + 1 := by omega
  have Ha := Lib.hid ha
  clear ha
  have HG : Hid ((!(g == -1)) = false ∨ inR g U.regs) := Lib.hid (hg.elim (fun h => .inl (by simp [h])) .inr)
  clear hg
  have K0 := K.c0
  have K2 := K.c2
  have K4 := K.c4
  have K5 := K.c5
  have hx2 : (n != 0) = true := by simpa using hx
  have HK := Lib.hid KP
  obtain ⟨cl, hcl⟩ : ∃ cl, cl = classK k := ⟨_, rfl⟩
  obtain ⟨nm, hnm⟩ : ∃ nm, nm = nameK k := ⟨_, rfl⟩
  rw [← hcl, ← hnm] at HO
  clear hu K KP V hcl hnm
  have m1 : bits .and .i64 2 1 = 0 := by decide
  have m2 : bits .and .i64 2 2 = 2 := by decide
  have m4 : bits .and .i64 2 4 = 0 := by decide
  have m8 : bits .and .i64 2 8 = 0 := by decide
  have m16 : bits .and .i64 2 16 = 0 := by decide
  have m32 : bits .and .i64 2 32 = 0 := by decide
  have m64 : bits .and .i64 2 64 = 0 := by decide
  have m128 : bits .and .i64 2 128 = 0 := by decide
  go_enter Tryd.func94, Tryd.ntmps94
  go_wp2_with (first
      | (go_at_call 111; refine (HO.out _ (HV.out.below ((Below.refl _ _).alloc (Nat.le_refl _) _))).mono ?_; rintro x w1 ⟨rfl, hb1⟩; have hbw := bel_box1 hb1; have E0 := keep1 hbw K0; have E2 := keep1 hbw K2; have E4 := keep1 hbw K4; have E5 := keep1 hbw K5; have EP := HK.out.below hbw; have xb0 := box1 hb1 0 (.int .i64 (k)) rfl; have xb1 := box1 hb1 1 (.int .i64 (0)) rfl; have xb2 := box1 hb1 2 (.int .i64 (a)) rfl; have xb3 := box1 hb1 3 (.int .i64 (0)) rfl; have xb4 := box1 hb1 4 (.int .i64 (0)) rfl; have xb5 := box1 hb1 5 (.int .i64 (n)) rfl; have xb6 := box1 hb1 6 (.int .i64 (g)) rfl; have hsz := hbw.size; have ls1 := box_lt1 hb1; have nw : c ≠ w1.heap.size := ?nw; (case nw => omega); have nw' := nw.symm; have lw : c < w1.heap.size := ?nw; (case nw => omega); have nx : w.heap.size ≠ w1.heap.size := ?nw; (case nw => omega); have nx' := nx.symm; have HB := Lib.hid hbw; have HP := Lib.hid EP; clear hb1 hbw EP)
      | (go_at_call 112; (with_reducible refine (reg_ok (U := U) _ _ ?rg ?rc).mono ?_); (case rg => first | exact .inl rfl | exact .inr Ha.out | exact HG.out); (case rc => first | exact E2 | exact cellA E2 | (simp [*]; done)); rintro x w3 ⟨rfl, rfl⟩)
      | (go_at_call 91; (with_reducible refine (must_ok _ _ _).mono ?_); rintro x w3 ⟨rfl, rfl⟩)
      | (go_at_call 91; (with_reducible refine (must_bad (c := c) _ _ ?rd).mono ?_); (case rd => first | exact HP.out | exact HP.out.alloc _); rintro x w3 ⟨⟨b0, a0, rfl⟩, hb3⟩; have HB3 := Lib.hid hb3; clear hb3))
  exact ⟨rfl, ⟨_, _, rfl⟩, by first | exact (HB.out.alloc (Nat.le_of_lt ls1) _).trans (HB3.out.mono (by simp; omega)) | exact HB.out.trans (HB3.out.mono hsz)⟩

set_option maxRecDepth 100000 in
set_option maxHeartbeats 1000000 in
theorem opx_130_rega (k d a b r3 n g : Int) (hu : usesK k = 130) (h1 : 1 ≤ k) (h2 : k ≤ 25) (hx : ¬ inR a U.regs) (K : Ck w c U Av cv Ab cb) (KP : CkP w c) (V : Env w) (hz : U.sizes.length ≤ 16) (hbl : U.blocks.length ≤ 2000) (hsp : 0 ≤ U.spill) :
    Calls Tryd.prog 94 #[.pointer (some ⟨c, 0, none⟩), .agg #[.int .i64 k, .int .i64 d, .int .i64 a, .int .i64 b, .int .i64 r3, .int .i64 n, .int .i64 g]] w fun x w' => Died 2 x ∧ Below w.heap.size w w' := by
  have HO := Lib.hid (fun (W : World) (V : Env W) => hu ▸ of_any k h1 h2 W V)
  have HV := Lib.hid V
  have lc := lt_cell K.c2
  have nc : c ≠ w.heap.size := by omega
  have nc' := nc.symm
  have lc1 : c < w.heap.size + 1 := by omega
  have HX := Lib.hid hx
  clear hx
  have K0 := K.c0
  have K2 := K.c2
  have K4 := K.c4
  have K5 := K.c5
  have HK := Lib.hid KP
  obtain ⟨cl, hcl⟩ : ∃ cl, cl = classK k := ⟨_, rfl⟩
  obtain ⟨nm, hnm⟩ : ∃ nm, nm = nameK k := ⟨_, rfl⟩
  rw [← hcl, ← hnm] at HO
  clear hu K KP V hcl hnm
  have m1 : bits .and .i64 130 1 = 0 := by decide
  have m2 : bits .and .i64 130 2 = 2 := by decide
  have m4 : bits .and .i64 130 4 = 0 := by decide
  have m8 : bits .and .i64 130 8 = 0 := by decide
  have m16 : bits .and .i64 130 16 = 0 := by decide
  have m32 : bits .and .i64 130 32 = 0 := by decide
  have m64 : bits .and .i64 130 64 = 0 := by decide
  have m128 : bits .and .i64 130 128 = 128 := by decide
  go_enter Tryd.func94, Tryd.ntmps94
  go_wp2_with (first
      | (go_at_call 111; refine (HO.out _ (HV.out.below ((Below.refl _ _).alloc (Nat.le_refl _) _))).mono ?_; rintro x w1 ⟨rfl, hb1⟩; have hbw := bel_box1 hb1; have E0 := keep1 hbw K0; have E2 := keep1 hbw K2; have E4 := keep1 hbw K4; have E5 := keep1 hbw K5; have EP := HK.out.below hbw; have xb0 := box1 hb1 0 (.int .i64 (k)) rfl; have xb1 := box1 hb1 1 (.int .i64 (d)) rfl; have xb2 := box1 hb1 2 (.int .i64 (a)) rfl; have xb3 := box1 hb1 3 (.int .i64 (b)) rfl; have xb4 := box1 hb1 4 (.int .i64 (r3)) rfl; have xb5 := box1 hb1 5 (.int .i64 (n)) rfl; have xb6 := box1 hb1 6 (.int .i64 (g)) rfl; have hsz := hbw.size; have ls1 := box_lt1 hb1; have nw : c ≠ w1.heap.size := ?nw; (case nw => omega); have nw' := nw.symm; have lw : c < w1.heap.size := ?nw; (case nw => omega); have nx : w.heap.size ≠ w1.heap.size := ?nw; (case nw => omega); have nx' := nx.symm; have HB := Lib.hid hbw; have HP := Lib.hid EP; clear hb1 hbw EP)
      | (go_at_call 112; (with_reducible refine (reg_ok (U := U) _ _ ?rg ?rc).mono ?_); (case rg => first | exact .inl rfl); (case rc => first | exact E2 | exact cellA E2 | (simp [*]; done)); rintro x w3 ⟨rfl, rfl⟩)
      | (go_at_call 112; (with_reducible refine (reg_bad (U := U) _ HX.out ?rc ?rd).mono ?_); (case rc => first | exact E2 | exact cellA E2 | (simp [*]; done)); (case rd => first | exact HP.out | exact HP.out.alloc _); rintro x w3 ⟨⟨b0, a0, rfl⟩, hb3⟩; have HB3 := Lib.hid hb3; clear hb3)
      | (go_at_call 91; (with_reducible refine (must_ok _ _ _).mono ?_); rintro x w3 ⟨rfl, rfl⟩))
  exact ⟨rfl, ⟨_, _, rfl⟩, by first | exact (HB.out.alloc (Nat.le_of_lt ls1) _).trans (HB3.out.mono (by simp; omega)) | exact HB.out.trans (HB3.out.mono hsz)⟩

set_option maxRecDepth 100000 in
set_option maxHeartbeats 1000000 in
theorem opx_130_gg (k d a b r3 n g : Int) (hu : usesK k = 130) (h1 : 1 ≤ k) (h2 : k ≤ 25) (ha : inR a U.regs) (hx0 : g ≠ -1) (hx : ¬ inR g U.regs) (K : Ck w c U Av cv Ab cb) (KP : CkP w c) (V : Env w) (hz : U.sizes.length ≤ 16) (hbl : U.blocks.length ≤ 2000) (hsp : 0 ≤ U.spill) :
    Calls Tryd.prog 94 #[.pointer (some ⟨c, 0, none⟩), .agg #[.int .i64 k, .int .i64 d, .int .i64 a, .int .i64 b, .int .i64 r3, .int .i64 n, .int .i64 g]] w fun x w' => Died 2 x ∧ Below w.heap.size w w' := by
  have HO := Lib.hid (fun (W : World) (V : Env W) => hu ▸ of_any k h1 h2 W V)
  have HV := Lib.hid V
  have lc := lt_cell K.c2
  have nc : c ≠ w.heap.size := by omega
  have nc' := nc.symm
  have lc1 : c < w.heap.size + 1 := by omega
  have Ha := Lib.hid ha
  clear ha
  have HX := Lib.hid hx
  clear hx
  have hgb : (g == -1) = false := by simpa using hx0
  have hgb2 : (g != -1) = true := by simpa using hx0
  clear hx0
  have K0 := K.c0
  have K2 := K.c2
  have K4 := K.c4
  have K5 := K.c5
  have HK := Lib.hid KP
  obtain ⟨cl, hcl⟩ : ∃ cl, cl = classK k := ⟨_, rfl⟩
  obtain ⟨nm, hnm⟩ : ∃ nm, nm = nameK k := ⟨_, rfl⟩
  rw [← hcl, ← hnm] at HO
  clear hu K KP V hcl hnm
  have m1 : bits .and .i64 130 1 = 0 := by decide
  have m2 : bits .and .i64 130 2 = 2 := by decide
  have m4 : bits .and .i64 130 4 = 0 := by decide
  have m8 : bits .and .i64 130 8 = 0 := by decide
  have m16 : bits .and .i64 130 16 = 0 := by decide
  have m32 : bits .and .i64 130 32 = 0 := by decide
  have m64 : bits .and .i64 130 64 = 0 := by decide
  have m128 : bits .and .i64 130 128 = 128 := by decide
  go_enter Tryd.func94, Tryd.ntmps94
  go_wp2_with (first
      | (go_at_call 111; refine (HO.out _ (HV.out.below ((Below.refl _ _).alloc (Nat.le_refl _) _))).mono ?_; rintro x w1 ⟨rfl, hb1⟩; have hbw := bel_box1 hb1; have E0 := keep1 hbw K0; have E2 := keep1 hbw K2; have E4 := keep1 hbw K4; have E5 := keep1 hbw K5; have EP := HK.out.below hbw; have xb0 := box1 hb1 0 (.int .i64 (k)) rfl; have xb1 := box1 hb1 1 (.int .i64 (d)) rfl; have xb2 := box1 hb1 2 (.int .i64 (a)) rfl; have xb3 := box1 hb1 3 (.int .i64 (b)) rfl; have xb4 := box1 hb1 4 (.int .i64 (r3)) rfl; have xb5 := box1 hb1 5 (.int .i64 (n)) rfl; have xb6 := box1 hb1 6 (.int .i64 (g)) rfl; have hsz := hbw.size; have ls1 := box_lt1 hb1; have nw : c ≠ w1.heap.size := ?nw; (case nw => omega); have nw' := nw.symm; have lw : c < w1.heap.size := ?nw; (case nw => omega); have nx : w.heap.size ≠ w1.heap.size := ?nw; (case nw => omega); have nx' := nx.symm; have HB := Lib.hid hbw; have HP := Lib.hid EP; clear hb1 hbw EP)
      | (go_at_call 112; (with_reducible refine (reg_ok (U := U) _ _ ?rg ?rc).mono ?_); (case rg => first | exact .inl rfl | exact .inr Ha.out); (case rc => first | exact E2 | exact cellA E2 | (simp [*]; done)); rintro x w3 ⟨rfl, rfl⟩)
      | (go_at_call 112; (with_reducible refine (reg_bad (U := U) _ HX.out ?rc ?rd).mono ?_); (case rc => first | exact E2 | exact cellA E2 | (simp [*]; done)); (case rd => first | exact HP.out | exact HP.out.alloc _); rintro x w3 ⟨⟨b0, a0, rfl⟩, hb3⟩; have HB3 := Lib.hid hb3; clear hb3)
      | (go_at_call 91; (with_reducible refine (must_ok _ _ _).mono ?_); rintro x w3 ⟨rfl, rfl⟩))
  exact ⟨rfl, ⟨_, _, rfl⟩, by first | exact (HB.out.alloc (Nat.le_of_lt ls1) _).trans (HB3.out.mono (by simp; omega)) | exact HB.out.trans (HB3.out.mono hsz)⟩

set_option maxRecDepth 100000 in
set_option maxHeartbeats 1000000 in
theorem opx_130_nn (k d a b r3 n g : Int) (hu : usesK k = 130) (h1 : 1 ≤ k) (h2 : k ≤ 25) (ha : inR a U.regs) (hg : g = -1 ∨ inR g U.regs) (hx : n < 0 ∨ (U.blocks.length : Int) ≤ n) (K : Ck w c U Av cv Ab cb) (KP : CkP w c) (V : Env w) (hz : U.sizes.length ≤ 16) (hbl : U.blocks.length ≤ 2000) (hsp : 0 ≤ U.spill) :
    Calls Tryd.prog 94 #[.pointer (some ⟨c, 0, none⟩), .agg #[.int .i64 k, .int .i64 d, .int .i64 a, .int .i64 b, .int .i64 r3, .int .i64 n, .int .i64 g]] w fun x w' => Died 5 x ∧ Below w.heap.size w w' := by
  have HO := Lib.hid (fun (W : World) (V : Env W) => hu ▸ of_any k h1 h2 W V)
  have HV := Lib.hid V
  have lc := lt_cell K.c2
  have nc : c ≠ w.heap.size := by omega
  have nc' := nc.symm
  have lc1 : c < w.heap.size + 1 := by omega
  have Ha := Lib.hid ha
  clear ha
  have HG : Hid ((!(g == -1)) = false ∨ inR g U.regs) := Lib.hid (hg.elim (fun h => .inl (by simp [h])) .inr)
  clear hg
  have K0 := K.c0
  have K2 := K.c2
  have K4 := K.c4
  have K5 := K.c5
  have HK := Lib.hid KP
  obtain ⟨cl, hcl⟩ : ∃ cl, cl = classK k := ⟨_, rfl⟩
  obtain ⟨nm, hnm⟩ : ∃ nm, nm = nameK k := ⟨_, rfl⟩
  rw [← hcl, ← hnm] at HO
  clear hu K KP V hcl hnm
  have m1 : bits .and .i64 130 1 = 0 := by decide
  have m2 : bits .and .i64 130 2 = 2 := by decide
  have m4 : bits .and .i64 130 4 = 0 := by decide
  have m8 : bits .and .i64 130 8 = 0 := by decide
  have m16 : bits .and .i64 130 16 = 0 := by decide
  have m32 : bits .and .i64 130 32 = 0 := by decide
  have m64 : bits .and .i64 130 64 = 0 := by decide
  have m128 : bits .and .i64 130 128 = 128 := by decide
  have dz : decide ((U.blocks.length : Int) < 0) = false := decide_eq_false (by omega)
  have dn : (n < 0 ∧ decide (0 ≤ n) = false) ∨ (0 ≤ n ∧ decide (n < (U.blocks.length : Int)) = false) := hx.imp (fun h => ⟨h, decide_eq_false (by omega)⟩) fun h => ⟨by omega, decide_eq_false (by omega)⟩
  clear hx
  rcases dn with ⟨hx, hx2⟩ | ⟨hx, hx2⟩
  all_goals
    go_enter Tryd.func94, Tryd.ntmps94
    go_wp2_with (first
      | (go_at_call 111; refine (HO.out _ (HV.out.below ((Below.refl _ _).alloc (Nat.le_refl _) _))).mono ?_; rintro x w1 ⟨rfl, hb1⟩; have hbw := bel_box1 hb1; have E0 := keep1 hbw K0; have E2 := keep1 hbw K2; have E4 := keep1 hbw K4; have E5 := keep1 hbw K5; have EP := HK.out.below hbw; have xb0 := box1 hb1 0 (.int .i64 (k)) rfl; have xb1 := box1 hb1 1 (.int .i64 (d)) rfl; have xb2 := box1 hb1 2 (.int .i64 (a)) rfl; have xb3 := box1 hb1 3 (.int .i64 (b)) rfl; have xb4 := box1 hb1 4 (.int .i64 (r3)) rfl; have xb5 := box1 hb1 5 (.int .i64 (n)) rfl; have xb6 := box1 hb1 6 (.int .i64 (g)) rfl; have hsz := hbw.size; have ls1 := box_lt1 hb1; have nw : c ≠ w1.heap.size := ?nw; (case nw => omega); have nw' := nw.symm; have lw : c < w1.heap.size := ?nw; (case nw => omega); have nx : w.heap.size ≠ w1.heap.size := ?nw; (case nw => omega); have nx' := nx.symm; have HB := Lib.hid hbw; have HP := Lib.hid EP; clear hb1 hbw EP)
      | (go_at_call 112; (with_reducible refine (reg_ok (U := U) _ _ ?rg ?rc).mono ?_); (case rg => first | exact .inl rfl | exact .inr Ha.out | exact HG.out); (case rc => first | exact E2 | exact cellA E2 | (simp [*]; done)); rintro x w3 ⟨rfl, rfl⟩)
      | (go_at_call 91; (with_reducible refine (must_ok _ _ _).mono ?_); rintro x w3 ⟨rfl, rfl⟩)
      | (go_at_call 91; (with_reducible refine (must_bad (c := c) _ _ ?rd).mono ?_); (case rd => first | exact HP.out | exact HP.out.alloc _); rintro x w3 ⟨⟨b0, a0, rfl⟩, hb3⟩; have HB3 := Lib.hid hb3; clear hb3))
    exact ⟨rfl, ⟨_, _, rfl⟩, by first | exact (HB.out.alloc (Nat.le_of_lt ls1) _).trans (HB3.out.mono (by simp; omega)) | exact HB.out.trans (HB3.out.mono hsz)⟩

set_option maxRecDepth 100000 in
set_option maxHeartbeats 1000000 in
theorem opx_130_idled (k d a b r3 n g : Int) (hu : usesK k = 130) (h1 : 1 ≤ k) (h2 : k ≤ 25) (ha : inR a U.regs) (hg : g = -1 ∨ inR g U.regs) (hn : inR n U.blocks.length) (hx : (d == 0) = false) (K : Ck w c U Av cv Ab cb) (KP : CkP w c) (V : Env w) (hz : U.sizes.length ≤ 16) (hbl : U.blocks.length ≤ 2000) (hsp : 0 ≤ U.spill) :
    Calls Tryd.prog 94 #[.pointer (some ⟨c, 0, none⟩), .agg #[.int .i64 k, .int .i64 d, .int .i64 a, .int .i64 b, .int .i64 r3, .int .i64 n, .int .i64 g]] w fun x w' => Died 4 x ∧ Below w.heap.size w w' := by
  have HO := Lib.hid (fun (W : World) (V : Env W) => hu ▸ of_any k h1 h2 W V)
  have HV := Lib.hid V
  have lc := lt_cell K.c2
  have nc : c ≠ w.heap.size := by omega
  have nc' := nc.symm
  have lc1 : c < w.heap.size + 1 := by omega
  have Ha := Lib.hid ha
  clear ha
  have HG : Hid ((!(g == -1)) = false ∨ inR g U.regs) := Lib.hid (hg.elim (fun h => .inl (by simp [h])) .inr)
  clear hg
  obtain ⟨n0, n1⟩ := hn
  have K0 := K.c0
  have K2 := K.c2
  have K4 := K.c4
  have K5 := K.c5
  have hx2 : (d != 0) = true := by simpa using hx
  have HK := Lib.hid KP
  obtain ⟨cl, hcl⟩ : ∃ cl, cl = classK k := ⟨_, rfl⟩
  obtain ⟨nm, hnm⟩ : ∃ nm, nm = nameK k := ⟨_, rfl⟩
  rw [← hcl, ← hnm] at HO
  clear hu K KP V hcl hnm
  have m1 : bits .and .i64 130 1 = 0 := by decide
  have m2 : bits .and .i64 130 2 = 2 := by decide
  have m4 : bits .and .i64 130 4 = 0 := by decide
  have m8 : bits .and .i64 130 8 = 0 := by decide
  have m16 : bits .and .i64 130 16 = 0 := by decide
  have m32 : bits .and .i64 130 32 = 0 := by decide
  have m64 : bits .and .i64 130 64 = 0 := by decide
  have m128 : bits .and .i64 130 128 = 128 := by decide
  go_enter Tryd.func94, Tryd.ntmps94
  go_wp2_with (first
      | (go_at_call 111; refine (HO.out _ (HV.out.below ((Below.refl _ _).alloc (Nat.le_refl _) _))).mono ?_; rintro x w1 ⟨rfl, hb1⟩; have hbw := bel_box1 hb1; have E0 := keep1 hbw K0; have E2 := keep1 hbw K2; have E4 := keep1 hbw K4; have E5 := keep1 hbw K5; have EP := HK.out.below hbw; have xb0 := box1 hb1 0 (.int .i64 (k)) rfl; have xb1 := box1 hb1 1 (.int .i64 (d)) rfl; have xb2 := box1 hb1 2 (.int .i64 (a)) rfl; have xb3 := box1 hb1 3 (.int .i64 (b)) rfl; have xb4 := box1 hb1 4 (.int .i64 (r3)) rfl; have xb5 := box1 hb1 5 (.int .i64 (n)) rfl; have xb6 := box1 hb1 6 (.int .i64 (g)) rfl; have hsz := hbw.size; have ls1 := box_lt1 hb1; have nw : c ≠ w1.heap.size := ?nw; (case nw => omega); have nw' := nw.symm; have lw : c < w1.heap.size := ?nw; (case nw => omega); have nx : w.heap.size ≠ w1.heap.size := ?nw; (case nw => omega); have nx' := nx.symm; have HB := Lib.hid hbw; have HP := Lib.hid EP; clear hb1 hbw EP)
      | (go_at_call 112; (with_reducible refine (reg_ok (U := U) _ _ ?rg ?rc).mono ?_); (case rg => first | exact .inl rfl | exact .inr Ha.out | exact HG.out); (case rc => first | exact E2 | exact cellA E2 | (simp [*]; done)); rintro x w3 ⟨rfl, rfl⟩)
      | (go_at_call 91; (with_reducible refine (must_ok _ _ _).mono ?_); rintro x w3 ⟨rfl, rfl⟩)
      | (go_at_call 91; (with_reducible refine (must_bad (c := c) _ _ ?rd).mono ?_); (case rd => first | exact HP.out | exact HP.out.alloc _); rintro x w3 ⟨⟨b0, a0, rfl⟩, hb3⟩; have HB3 := Lib.hid hb3; clear hb3))
  exact ⟨rfl, ⟨_, _, rfl⟩, by first | exact (HB.out.alloc (Nat.le_of_lt ls1) _).trans (HB3.out.mono (by simp; omega)) | exact HB.out.trans (HB3.out.mono hsz)⟩

set_option maxRecDepth 100000 in
set_option maxHeartbeats 1000000 in
theorem opx_130_idleb (k a b r3 n g : Int) (hu : usesK k = 130) (h1 : 1 ≤ k) (h2 : k ≤ 25) (ha : inR a U.regs) (hg : g = -1 ∨ inR g U.regs) (hn : inR n U.blocks.length) (hx : (b == 0) = false) (K : Ck w c U Av cv Ab cb) (KP : CkP w c) (V : Env w) (hz : U.sizes.length ≤ 16) (hbl : U.blocks.length ≤ 2000) (hsp : 0 ≤ U.spill) :
    Calls Tryd.prog 94 #[.pointer (some ⟨c, 0, none⟩), .agg #[.int .i64 k, .int .i64 0, .int .i64 a, .int .i64 b, .int .i64 r3, .int .i64 n, .int .i64 g]] w fun x w' => Died 4 x ∧ Below w.heap.size w w' := by
  have HO := Lib.hid (fun (W : World) (V : Env W) => hu ▸ of_any k h1 h2 W V)
  have HV := Lib.hid V
  have lc := lt_cell K.c2
  have nc : c ≠ w.heap.size := by omega
  have nc' := nc.symm
  have lc1 : c < w.heap.size + 1 := by omega
  have Ha := Lib.hid ha
  clear ha
  have HG : Hid ((!(g == -1)) = false ∨ inR g U.regs) := Lib.hid (hg.elim (fun h => .inl (by simp [h])) .inr)
  clear hg
  obtain ⟨n0, n1⟩ := hn
  have K0 := K.c0
  have K2 := K.c2
  have K4 := K.c4
  have K5 := K.c5
  have hx2 : (b != 0) = true := by simpa using hx
  have HK := Lib.hid KP
  obtain ⟨cl, hcl⟩ : ∃ cl, cl = classK k := ⟨_, rfl⟩
  obtain ⟨nm, hnm⟩ : ∃ nm, nm = nameK k := ⟨_, rfl⟩
  rw [← hcl, ← hnm] at HO
  clear hu K KP V hcl hnm
  have m1 : bits .and .i64 130 1 = 0 := by decide
  have m2 : bits .and .i64 130 2 = 2 := by decide
  have m4 : bits .and .i64 130 4 = 0 := by decide
  have m8 : bits .and .i64 130 8 = 0 := by decide
  have m16 : bits .and .i64 130 16 = 0 := by decide
  have m32 : bits .and .i64 130 32 = 0 := by decide
  have m64 : bits .and .i64 130 64 = 0 := by decide
  have m128 : bits .and .i64 130 128 = 128 := by decide
  go_enter Tryd.func94, Tryd.ntmps94
  go_wp2_with (first
      | (go_at_call 111; refine (HO.out _ (HV.out.below ((Below.refl _ _).alloc (Nat.le_refl _) _))).mono ?_; rintro x w1 ⟨rfl, hb1⟩; have hbw := bel_box1 hb1; have E0 := keep1 hbw K0; have E2 := keep1 hbw K2; have E4 := keep1 hbw K4; have E5 := keep1 hbw K5; have EP := HK.out.below hbw; have xb0 := box1 hb1 0 (.int .i64 (k)) rfl; have xb1 := box1 hb1 1 (.int .i64 (0)) rfl; have xb2 := box1 hb1 2 (.int .i64 (a)) rfl; have xb3 := box1 hb1 3 (.int .i64 (b)) rfl; have xb4 := box1 hb1 4 (.int .i64 (r3)) rfl; have xb5 := box1 hb1 5 (.int .i64 (n)) rfl; have xb6 := box1 hb1 6 (.int .i64 (g)) rfl; have hsz := hbw.size; have ls1 := box_lt1 hb1; have nw : c ≠ w1.heap.size := ?nw; (case nw => omega); have nw' := nw.symm; have lw : c < w1.heap.size := ?nw; (case nw => omega); have nx : w.heap.size ≠ w1.heap.size := ?nw; (case nw => omega); have nx' := nx.symm; have HB := Lib.hid hbw; have HP := Lib.hid EP; clear hb1 hbw EP)
      | (go_at_call 112; (with_reducible refine (reg_ok (U := U) _ _ ?rg ?rc).mono ?_); (case rg => first | exact .inl rfl | exact .inr Ha.out | exact HG.out); (case rc => first | exact E2 | exact cellA E2 | (simp [*]; done)); rintro x w3 ⟨rfl, rfl⟩)
      | (go_at_call 91; (with_reducible refine (must_ok _ _ _).mono ?_); rintro x w3 ⟨rfl, rfl⟩)
      | (go_at_call 91; (with_reducible refine (must_bad (c := c) _ _ ?rd).mono ?_); (case rd => first | exact HP.out | exact HP.out.alloc _); rintro x w3 ⟨⟨b0, a0, rfl⟩, hb3⟩; have HB3 := Lib.hid hb3; clear hb3))
  exact ⟨rfl, ⟨_, _, rfl⟩, by first | exact (HB.out.alloc (Nat.le_of_lt ls1) _).trans (HB3.out.mono (by simp; omega)) | exact HB.out.trans (HB3.out.mono hsz)⟩

set_option maxRecDepth 100000 in
set_option maxHeartbeats 1000000 in
theorem opx_130_idlec (k a r3 n g : Int) (hu : usesK k = 130) (h1 : 1 ≤ k) (h2 : k ≤ 25) (ha : inR a U.regs) (hg : g = -1 ∨ inR g U.regs) (hn : inR n U.blocks.length) (hx : (r3 == 0) = false) (K : Ck w c U Av cv Ab cb) (KP : CkP w c) (V : Env w) (hz : U.sizes.length ≤ 16) (hbl : U.blocks.length ≤ 2000) (hsp : 0 ≤ U.spill) :
    Calls Tryd.prog 94 #[.pointer (some ⟨c, 0, none⟩), .agg #[.int .i64 k, .int .i64 0, .int .i64 a, .int .i64 0, .int .i64 r3, .int .i64 n, .int .i64 g]] w fun x w' => Died 4 x ∧ Below w.heap.size w w' := by
  have HO := Lib.hid (fun (W : World) (V : Env W) => hu ▸ of_any k h1 h2 W V)
  have HV := Lib.hid V
  have lc := lt_cell K.c2
  have nc : c ≠ w.heap.size := by omega
  have nc' := nc.symm
  have lc1 : c < w.heap.size + 1 := by omega
  have Ha := Lib.hid ha
  clear ha
  have HG : Hid ((!(g == -1)) = false ∨ inR g U.regs) := Lib.hid (hg.elim (fun h => .inl (by simp [h])) .inr)
  clear hg
  obtain ⟨n0, n1⟩ := hn
  have K0 := K.c0
  have K2 := K.c2
  have K4 := K.c4
  have K5 := K.c5
  have hx2 : (r3 != 0) = true := by simpa using hx
  have HK := Lib.hid KP
  obtain ⟨cl, hcl⟩ : ∃ cl, cl = classK k := ⟨_, rfl⟩
  obtain ⟨nm, hnm⟩ : ∃ nm, nm = nameK k := ⟨_, rfl⟩
  rw [← hcl, ← hnm] at HO
  clear hu K KP V hcl hnm
  have m1 : bits .and .i64 130 1 = 0 := by decide
  have m2 : bits .and .i64 130 2 = 2 := by decide
  have m4 : bits .and .i64 130 4 = 0 := by decide
  have m8 : bits .and .i64 130 8 = 0 := by decide
  have m16 : bits .and .i64 130 16 = 0 := by decide
  have m32 : bits .and .i64 130 32 = 0 := by decide
  have m64 : bits .and .i64 130 64 = 0 := by decide
  have m128 : bits .and .i64 130 128 = 128 := by decide
  go_enter Tryd.func94, Tryd.ntmps94
  go_wp2_with (first
      | (go_at_call 111; refine (HO.out _ (HV.out.below ((Below.refl _ _).alloc (Nat.le_refl _) _))).mono ?_; rintro x w1 ⟨rfl, hb1⟩; have hbw := bel_box1 hb1; have E0 := keep1 hbw K0; have E2 := keep1 hbw K2; have E4 := keep1 hbw K4; have E5 := keep1 hbw K5; have EP := HK.out.below hbw; have xb0 := box1 hb1 0 (.int .i64 (k)) rfl; have xb1 := box1 hb1 1 (.int .i64 (0)) rfl; have xb2 := box1 hb1 2 (.int .i64 (a)) rfl; have xb3 := box1 hb1 3 (.int .i64 (0)) rfl; have xb4 := box1 hb1 4 (.int .i64 (r3)) rfl; have xb5 := box1 hb1 5 (.int .i64 (n)) rfl; have xb6 := box1 hb1 6 (.int .i64 (g)) rfl; have hsz := hbw.size; have ls1 := box_lt1 hb1; have nw : c ≠ w1.heap.size := ?nw; (case nw => omega); have nw' := nw.symm; have lw : c < w1.heap.size := ?nw; (case nw => omega); have nx : w.heap.size ≠ w1.heap.size := ?nw; (case nw => omega); have nx' := nx.symm; have HB := Lib.hid hbw; have HP := Lib.hid EP; clear hb1 hbw EP)
      | (go_at_call 112; (with_reducible refine (reg_ok (U := U) _ _ ?rg ?rc).mono ?_); (case rg => first | exact .inl rfl | exact .inr Ha.out | exact HG.out); (case rc => first | exact E2 | exact cellA E2 | (simp [*]; done)); rintro x w3 ⟨rfl, rfl⟩)
      | (go_at_call 91; (with_reducible refine (must_ok _ _ _).mono ?_); rintro x w3 ⟨rfl, rfl⟩)
      | (go_at_call 91; (with_reducible refine (must_bad (c := c) _ _ ?rd).mono ?_); (case rd => first | exact HP.out | exact HP.out.alloc _); rintro x w3 ⟨⟨b0, a0, rfl⟩, hb3⟩; have HB3 := Lib.hid hb3; clear hb3))
  exact ⟨rfl, ⟨_, _, rfl⟩, by first | exact (HB.out.alloc (Nat.le_of_lt ls1) _).trans (HB3.out.mono (by simp; omega)) | exact HB.out.trans (HB3.out.mono hsz)⟩

end Go.Proofs.YtfkjkdoloamakaaDoor
