/- The checker of package code: what it says of right operations and ends. -/
import Derived.Test.YtfkjkdoloamakaaDoorMb
import Derived.Lib.SliceRun
namespace Go.Proofs.YtfkjkdoloamakaaDoor
open Go.RowKit
set_option linter.unusedVariables false
set_option linter.unusedSimpArgs false
variable {w : World} {c : Nat} {U : UnS}

/-- a checker in memory: its unit, and where it is -/
structure Ck (w : World) (c : Nat) (U : UnS) (Av : Option Addr) (cv : Nat) (Ab : Option Addr) (cb : Nat) : Prop where
  c0 : w.cell? ⟨c, 0, none⟩ = some (.slice Av U.sizes.length cv)
  c1 : w.cell? ⟨c, 1, none⟩ = some (.int .i64 U.params)
  c2 : w.cell? ⟨c, 2, none⟩ = some (.int .i64 U.regs)
  c3 : w.cell? ⟨c, 3, none⟩ = some (.int .i64 U.code)
  c4 : w.cell? ⟨c, 4, none⟩ = some (.int .i64 U.spill)
  c5 : w.cell? ⟨c, 5, none⟩ = some (.slice Ab U.blocks.length cb)
variable {Av Ab : Option Addr} {cv cb : Nat}
theorem lt_cell {w : World} {c i : Nat} {v : Value} (h : w.cell? ⟨c, i, none⟩ = some v) : c < w.heap.size := World.block_lt_of_cell? w ⟨c, i, none⟩ h
theorem Ck.fr {M : Nat → Prop} {w' : World} (h : Ck w c U Av cv Ab cb) (hf : Fr M w w') (hn : ¬ M c) : Ck w' c U Av cv Ab cb :=
  ⟨hf.cell h.c0 hn, hf.cell h.c1 hn, hf.cell h.c2 hn, hf.cell h.c3 hn, hf.cell h.c4 hn, hf.cell h.c5 hn⟩
theorem Ck.below {w' : World} (h : Ck w c U Av cv Ab cb) (hb : Below w.heap.size w w') : Ck w' c U Av cv Ab cb := h.fr (M := fun _ => False) (Fr.of_below hb) not_false

theorem must_ok (q : Option Addr) (e : Int) (w : World) : Calls Tryd.prog 91 #[.pointer q, .bool true, .int .i64 e] w fun x w' => x = .returned (.tuple #[]) ∧ w = w' := by
  go_enter Tryd.func91, Tryd.ntmps91
  go_wp2
  first | go_end0 | refine bodyPost_ret (results_none rfl _ _ _) rfl ?_
  exact ⟨rfl, rfl⟩
theorem within_yes (n m : Int) (h0 : 0 ≤ n) (h1 : n < m) (w : World) : Calls Tryd.prog 70 #[.int .i64 n, .int .i64 m] w fun x w' => x = .returned (.bool true) ∧ w = w' := by
  go_enter Tryd.func70, Tryd.ntmps70
  go_wp2
  go_ret
  exact ⟨rfl, rfl⟩
theorem reg_ok (r : Int) (used : Bool) (h : used = false ∨ inR r U.regs) (h2 : w.cell? ⟨c, 2, none⟩ = some (.int .i64 U.regs)) :
    Calls Tryd.prog 112 #[.pointer (some ⟨c, 0, none⟩), .int .i64 r, .bool used] w fun x w' => x = .returned (.tuple #[]) ∧ w = w' := by
  cases used
  · clear h
    go_enter Tryd.func112, Tryd.ntmps112
    go_wp2_with (go_at_call 91; refine (must_ok _ _ _).mono ?_; rintro x w1 ⟨rfl, rfl⟩)
    first | go_end0 | refine bodyPost_ret (results_none rfl _ _ _) rfl ?_
    exact ⟨rfl, rfl⟩
  · obtain ⟨h0, h1⟩ := h.resolve_left (by decide)
    clear h
    go_enter Tryd.func112, Tryd.ntmps112
    go_wp2_with (first | (go_at_call 70; refine (within_yes _ _ h0 h1 _).mono ?_; rintro x w1 ⟨rfl, rfl⟩) | (go_at_call 91; refine (must_ok _ _ _).mono ?_; rintro x w1 ⟨rfl, rfl⟩))
    first | go_end0 | refine bodyPost_ret (results_none rfl _ _ _) rfl ?_
    exact ⟨rfl, rfl⟩

theorem bel_box1 {w w1 : World} {o : Obj} (h : Below (w.alloc o).heap.size (w.alloc o) w1) : Below w.heap.size w w1 := ((Below.refl _ w).alloc (Nat.le_refl _) o).trans (h.mono (by simp))
theorem keep1 {w w1 : World} (hb : Below w.heap.size w w1) {g i : Nat} {v : Value} (h : w.cell? ⟨g, i, none⟩ = some v) : w1.cell? ⟨g, i, none⟩ = some v := (hb.cell (p := ⟨g, i, none⟩) (lt_cell h)).trans h
theorem box1 {w w1 : World} {cs : Array Value} {t : TypeId} (h : Below (w.alloc (.cells cs t)).heap.size (w.alloc (.cells cs t)) w1) (i : Nat) (v : Value) (hv : cs[i]? = some v) : w1.cell? ⟨w.heap.size, i, none⟩ = some v := by
  rw [h.cell (p := ⟨w.heap.size, i, none⟩) (by simp), (Blk.new w t cs).cell i]; exact hv
theorem box_lt1 {w w1 : World} {o : Obj} (h : Below (w.alloc o).heap.size (w.alloc o) w1) : w.heap.size < w1.heap.size := Nat.lt_of_lt_of_le (by simp) h.size
theorem cellA {W : World} {o : Obj} {a : Addr} {y : Value} (h : W.cell? a = some y) : (W.alloc o).cell? a = some y := Lib.cell?_alloc_some o h

set_option maxRecDepth 100000 in
set_option maxHeartbeats 1000000 in
theorem op_17 (k d n g : Int) (hu : usesK k = 17) (h1 : 1 ≤ k) (h2 : k ≤ 25) (hd : inR d U.regs) (hg : g = -1 ∨ inR g U.regs) (K : Ck w c U Av cv Ab cb) (V : Env w) (hz : U.sizes.length ≤ 16) (hbl : U.blocks.length ≤ 2000) :
    Calls Tryd.prog 94 #[.pointer (some ⟨c, 0, none⟩), .agg #[.int .i64 k, .int .i64 d, .int .i64 0, .int .i64 0, .int .i64 0, .int .i64 n, .int .i64 g]] w fun x w' => x = .returned (.tuple #[]) ∧ Below w.heap.size w w' := by
  have HO := Lib.hid (fun (W : World) (V : Env W) => hu ▸ of_any k h1 h2 W V)
  have HV := Lib.hid V
  have lc := lt_cell K.c2
  have nc : c ≠ w.heap.size := by omega
  have nc' := nc.symm
  have lc1 : c < w.heap.size + 1 := by omega
  have HG : Hid ((!(g == -1)) = false ∨ inR g U.regs) := Lib.hid (hg.elim (fun h => .inl (by simp [h])) .inr)
  have Hd := Lib.hid hd
  have K0 := K.c0
  have K2 := K.c2
  have K4 := K.c4
  have K5 := K.c5
  obtain ⟨cl, hcl⟩ : ∃ cl, cl = classK k := ⟨_, rfl⟩
  obtain ⟨nm, hnm⟩ : ∃ nm, nm = nameK k := ⟨_, rfl⟩
  rw [← hcl, ← hnm] at HO
  clear hu hg K V hcl hnm hd
  have m1 : bits .and .i64 17 1 = 1 := by decide
  have m2 : bits .and .i64 17 2 = 0 := by decide
  have m4 : bits .and .i64 17 4 = 0 := by decide
  have m8 : bits .and .i64 17 8 = 0 := by decide
  have m16 : bits .and .i64 17 16 = 16 := by decide
  have m32 : bits .and .i64 17 32 = 0 := by decide
  have m64 : bits .and .i64 17 64 = 0 := by decide
  have m128 : bits .and .i64 17 128 = 0 := by decide
  go_enter Tryd.func94, Tryd.ntmps94
  go_wp2_with (first
    | (go_at_call 111; refine (HO.out _ (HV.out.below ((Below.refl _ _).alloc (Nat.le_refl _) _))).mono ?_; rintro x w1 ⟨rfl, hb1⟩; have hbw := bel_box1 hb1; have E0 := keep1 hbw K0; have E2 := keep1 hbw K2; have E4 := keep1 hbw K4; have E5 := keep1 hbw K5; have xb0 := box1 hb1 0 (.int .i64 (k)) rfl; have xb1 := box1 hb1 1 (.int .i64 (d)) rfl; have xb2 := box1 hb1 2 (.int .i64 (0)) rfl; have xb3 := box1 hb1 3 (.int .i64 (0)) rfl; have xb4 := box1 hb1 4 (.int .i64 (0)) rfl; have xb5 := box1 hb1 5 (.int .i64 (n)) rfl; have xb6 := box1 hb1 6 (.int .i64 (g)) rfl; have hsz := hbw.size; have ls1 := box_lt1 hb1; have nw : c ≠ w1.heap.size := ?nw; (case nw => omega); have nw' := nw.symm; have lw : c < w1.heap.size := ?nw; (case nw => omega); have nx : w.heap.size ≠ w1.heap.size := ?nw; (case nw => omega); have nx' := nx.symm; have HB := Lib.hid hbw; clear hb1 hbw)
    | (go_at_call 112; refine (reg_ok (U := U) _ _ ?rg ?rc).mono ?_; (case rg => first | exact .inl rfl | exact HG.out | exact .inr Hd.out); (case rc => first | exact E2 | exact cellA E2 | (simp [*]; done)); rintro x w3 ⟨rfl, rfl⟩)
    | (go_at_call 91; refine (must_ok _ _ _).mono ?_; rintro x w3 ⟨rfl, rfl⟩))
  first | go_end0 | refine bodyPost_ret (results_none rfl _ _ _) rfl ?_
  refine ⟨rfl, ?_⟩
  exact HB.out.alloc (Nat.le_of_lt ls1) _

set_option maxRecDepth 100000 in
set_option maxHeartbeats 1000000 in
theorem op_3 (k d a g : Int) (hu : usesK k = 3) (h1 : 1 ≤ k) (h2 : k ≤ 25) (hd : inR d U.regs) (ha : inR a U.regs) (hg : g = -1 ∨ inR g U.regs) (K : Ck w c U Av cv Ab cb) (V : Env w) (hz : U.sizes.length ≤ 16) (hbl : U.blocks.length ≤ 2000) :
    Calls Tryd.prog 94 #[.pointer (some ⟨c, 0, none⟩), .agg #[.int .i64 k, .int .i64 d, .int .i64 a, .int .i64 0, .int .i64 0, .int .i64 0, .int .i64 g]] w fun x w' => x = .returned (.tuple #[]) ∧ Below w.heap.size w w' := by
  have HO := Lib.hid (fun (W : World) (V : Env W) => hu ▸ of_any k h1 h2 W V)
  have HV := Lib.hid V
  have lc := lt_cell K.c2
  have nc : c ≠ w.heap.size := by omega
  have nc' := nc.symm
  have lc1 : c < w.heap.size + 1 := by omega
  have HG : Hid ((!(g == -1)) = false ∨ inR g U.regs) := Lib.hid (hg.elim (fun h => .inl (by simp [h])) .inr)
  have Hd := Lib.hid hd
  have Ha := Lib.hid ha
  have K0 := K.c0
  have K2 := K.c2
  have K4 := K.c4
  have K5 := K.c5
  obtain ⟨cl, hcl⟩ : ∃ cl, cl = classK k := ⟨_, rfl⟩
  obtain ⟨nm, hnm⟩ : ∃ nm, nm = nameK k := ⟨_, rfl⟩
  rw [← hcl, ← hnm] at HO
  clear hu hg K V hcl hnm hd ha
  have m1 : bits .and .i64 3 1 = 1 := by decide
  have m2 : bits .and .i64 3 2 = 2 := by decide
  have m4 : bits .and .i64 3 4 = 0 := by decide
  have m8 : bits .and .i64 3 8 = 0 := by decide
  have m16 : bits .and .i64 3 16 = 0 := by decide
  have m32 : bits .and .i64 3 32 = 0 := by decide
  have m64 : bits .and .i64 3 64 = 0 := by decide
  have m128 : bits .and .i64 3 128 = 0 := by decide
  go_enter Tryd.func94, Tryd.ntmps94
  go_wp2_with (first
    | (go_at_call 111; refine (HO.out _ (HV.out.below ((Below.refl _ _).alloc (Nat.le_refl _) _))).mono ?_; rintro x w1 ⟨rfl, hb1⟩; have hbw := bel_box1 hb1; have E0 := keep1 hbw K0; have E2 := keep1 hbw K2; have E4 := keep1 hbw K4; have E5 := keep1 hbw K5; have xb0 := box1 hb1 0 (.int .i64 (k)) rfl; have xb1 := box1 hb1 1 (.int .i64 (d)) rfl; have xb2 := box1 hb1 2 (.int .i64 (a)) rfl; have xb3 := box1 hb1 3 (.int .i64 (0)) rfl; have xb4 := box1 hb1 4 (.int .i64 (0)) rfl; have xb5 := box1 hb1 5 (.int .i64 (0)) rfl; have xb6 := box1 hb1 6 (.int .i64 (g)) rfl; have hsz := hbw.size; have ls1 := box_lt1 hb1; have nw : c ≠ w1.heap.size := ?nw; (case nw => omega); have nw' := nw.symm; have lw : c < w1.heap.size := ?nw; (case nw => omega); have nx : w.heap.size ≠ w1.heap.size := ?nw; (case nw => omega); have nx' := nx.symm; have HB := Lib.hid hbw; clear hb1 hbw)
    | (go_at_call 112; refine (reg_ok (U := U) _ _ ?rg ?rc).mono ?_; (case rg => first | exact .inl rfl | exact HG.out | exact .inr Hd.out | exact .inr Ha.out); (case rc => first | exact E2 | exact cellA E2 | (simp [*]; done)); rintro x w3 ⟨rfl, rfl⟩)
    | (go_at_call 91; refine (must_ok _ _ _).mono ?_; rintro x w3 ⟨rfl, rfl⟩))
  first | go_end0 | refine bodyPost_ret (results_none rfl _ _ _) rfl ?_
  refine ⟨rfl, ?_⟩
  exact HB.out.alloc (Nat.le_of_lt ls1) _

set_option maxRecDepth 100000 in
set_option maxHeartbeats 1000000 in
theorem op_7 (k d a b g : Int) (hu : usesK k = 7) (h1 : 1 ≤ k) (h2 : k ≤ 25) (hd : inR d U.regs) (ha : inR a U.regs) (hb : inR b U.regs) (hg : g = -1 ∨ inR g U.regs) (K : Ck w c U Av cv Ab cb) (V : Env w) (hz : U.sizes.length ≤ 16) (hbl : U.blocks.length ≤ 2000) :
    Calls Tryd.prog 94 #[.pointer (some ⟨c, 0, none⟩), .agg #[.int .i64 k, .int .i64 d, .int .i64 a, .int .i64 b, .int .i64 0, .int .i64 0, .int .i64 g]] w fun x w' => x = .returned (.tuple #[]) ∧ Below w.heap.size w w' := by
  have HO := Lib.hid (fun (W : World) (V : Env W) => hu ▸ of_any k h1 h2 W V)
  have HV := Lib.hid V
  have lc := lt_cell K.c2
  have nc : c ≠ w.heap.size := by omega
  have nc' := nc.symm
  have lc1 : c < w.heap.size + 1 := by omega
  have HG : Hid ((!(g == -1)) = false ∨ inR g U.regs) := Lib.hid (hg.elim (fun h => .inl (by simp [h])) .inr)
  have Hd := Lib.hid hd
  have Ha := Lib.hid ha
  have Hb := Lib.hid hb
  have K0 := K.c0
  have K2 := K.c2
  have K4 := K.c4
  have K5 := K.c5
  obtain ⟨cl, hcl⟩ : ∃ cl, cl = classK k := ⟨_, rfl⟩
  obtain ⟨nm, hnm⟩ : ∃ nm, nm = nameK k := ⟨_, rfl⟩
  rw [← hcl, ← hnm] at HO
  clear hu hg K V hcl hnm hd ha hb
  have m1 : bits .and .i64 7 1 = 1 := by decide
  have m2 : bits .and .i64 7 2 = 2 := by decide
  have m4 : bits .and .i64 7 4 = 4 := by decide
  have m8 : bits .and .i64 7 8 = 0 := by decide
  have m16 : bits .and .i64 7 16 = 0 := by decide
  have m32 : bits .and .i64 7 32 = 0 := by decide
  have m64 : bits .and .i64 7 64 = 0 := by decide
  have m128 : bits .and .i64 7 128 = 0 := by decide
  go_enter Tryd.func94, Tryd.ntmps94
  go_wp2_with (first
    | (go_at_call 111; refine (HO.out _ (HV.out.below ((Below.refl _ _).alloc (Nat.le_refl _) _))).mono ?_; rintro x w1 ⟨rfl, hb1⟩; have hbw := bel_box1 hb1; have E0 := keep1 hbw K0; have E2 := keep1 hbw K2; have E4 := keep1 hbw K4; have E5 := keep1 hbw K5; have xb0 := box1 hb1 0 (.int .i64 (k)) rfl; have xb1 := box1 hb1 1 (.int .i64 (d)) rfl; have xb2 := box1 hb1 2 (.int .i64 (a)) rfl; have xb3 := box1 hb1 3 (.int .i64 (b)) rfl; have xb4 := box1 hb1 4 (.int .i64 (0)) rfl; have xb5 := box1 hb1 5 (.int .i64 (0)) rfl; have xb6 := box1 hb1 6 (.int .i64 (g)) rfl; have hsz := hbw.size; have ls1 := box_lt1 hb1; have nw : c ≠ w1.heap.size := ?nw; (case nw => omega); have nw' := nw.symm; have lw : c < w1.heap.size := ?nw; (case nw => omega); have nx : w.heap.size ≠ w1.heap.size := ?nw; (case nw => omega); have nx' := nx.symm; have HB := Lib.hid hbw; clear hb1 hbw)
    | (go_at_call 112; refine (reg_ok (U := U) _ _ ?rg ?rc).mono ?_; (case rg => first | exact .inl rfl | exact HG.out | exact .inr Hd.out | exact .inr Ha.out | exact .inr Hb.out); (case rc => first | exact E2 | exact cellA E2 | (simp [*]; done)); rintro x w3 ⟨rfl, rfl⟩)
    | (go_at_call 91; refine (must_ok _ _ _).mono ?_; rintro x w3 ⟨rfl, rfl⟩))
  first | go_end0 | refine bodyPost_ret (results_none rfl _ _ _) rfl ?_
  refine ⟨rfl, ?_⟩
  exact HB.out.alloc (Nat.le_of_lt ls1) _

set_option maxRecDepth 100000 in
set_option maxHeartbeats 1000000 in
theorem op_15 (k d a b r3 g : Int) (hu : usesK k = 15) (h1 : 1 ≤ k) (h2 : k ≤ 25) (hd : inR d U.regs) (ha : inR a U.regs) (hb : inR b U.regs) (hc : inR r3 U.regs) (hg : g = -1 ∨ inR g U.regs) (K : Ck w c U Av cv Ab cb) (V : Env w) (hz : U.sizes.length ≤ 16) (hbl : U.blocks.length ≤ 2000) :
    Calls Tryd.prog 94 #[.pointer (some ⟨c, 0, none⟩), .agg #[.int .i64 k, .int .i64 d, .int .i64 a, .int .i64 b, .int .i64 r3, .int .i64 0, .int .i64 g]] w fun x w' => x = .returned (.tuple #[]) ∧ Below w.heap.size w w' := by
  have HO := Lib.hid (fun (W : World) (V : Env W) => hu ▸ of_any k h1 h2 W V)
  have HV := Lib.hid V
  have lc := lt_cell K.c2
  have nc : c ≠ w.heap.size := by omega
  have nc' := nc.symm
  have lc1 : c < w.heap.size + 1 := by omega
  have HG : Hid ((!(g == -1)) = false ∨ inR g U.regs) := Lib.hid (hg.elim (fun h => .inl (by simp [h])) .inr)
  have Hd := Lib.hid hd
  have Ha := Lib.hid ha
  have Hb := Lib.hid hb
  have Hc := Lib.hid hc
  have K0 := K.c0
  have K2 := K.c2
  have K4 := K.c4
  have K5 := K.c5
  obtain ⟨cl, hcl⟩ : ∃ cl, cl = classK k := ⟨_, rfl⟩
  obtain ⟨nm, hnm⟩ : ∃ nm, nm = nameK k := ⟨_, rfl⟩
  rw [← hcl, ← hnm] at HO
  clear hu hg K V hcl hnm hd ha hb hc
  have m1 : bits .and .i64 15 1 = 1 := by decide
  have m2 : bits .and .i64 15 2 = 2 := by decide
  have m4 : bits .and .i64 15 4 = 4 := by decide
  have m8 : bits .and .i64 15 8 = 8 := by decide
  have m16 : bits .and .i64 15 16 = 0 := by decide
  have m32 : bits .and .i64 15 32 = 0 := by decide
  have m64 : bits .and .i64 15 64 = 0 := by decide
  have m128 : bits .and .i64 15 128 = 0 := by decide
  go_enter Tryd.func94, Tryd.ntmps94
  go_wp2_with (first
    | (go_at_call 111; refine (HO.out _ (HV.out.below ((Below.refl _ _).alloc (Nat.le_refl _) _))).mono ?_; rintro x w1 ⟨rfl, hb1⟩; have hbw := bel_box1 hb1; have E0 := keep1 hbw K0; have E2 := keep1 hbw K2; have E4 := keep1 hbw K4; have E5 := keep1 hbw K5; have xb0 := box1 hb1 0 (.int .i64 (k)) rfl; have xb1 := box1 hb1 1 (.int .i64 (d)) rfl; have xb2 := box1 hb1 2 (.int .i64 (a)) rfl; have xb3 := box1 hb1 3 (.int .i64 (b)) rfl; have xb4 := box1 hb1 4 (.int .i64 (r3)) rfl; have xb5 := box1 hb1 5 (.int .i64 (0)) rfl; have xb6 := box1 hb1 6 (.int .i64 (g)) rfl; have hsz := hbw.size; have ls1 := box_lt1 hb1; have nw : c ≠ w1.heap.size := ?nw; (case nw => omega); have nw' := nw.symm; have lw : c < w1.heap.size := ?nw; (case nw => omega); have nx : w.heap.size ≠ w1.heap.size := ?nw; (case nw => omega); have nx' := nx.symm; have HB := Lib.hid hbw; clear hb1 hbw)
    | (go_at_call 112; refine (reg_ok (U := U) _ _ ?rg ?rc).mono ?_; (case rg => first | exact .inl rfl | exact HG.out | exact .inr Hd.out | exact .inr Ha.out | exact .inr Hb.out | exact .inr Hc.out); (case rc => first | exact E2 | exact cellA E2 | (simp [*]; done)); rintro x w3 ⟨rfl, rfl⟩)
    | (go_at_call 91; refine (must_ok _ _ _).mono ?_; rintro x w3 ⟨rfl, rfl⟩))
  first | go_end0 | refine bodyPost_ret (results_none rfl _ _ _) rfl ?_
  refine ⟨rfl, ?_⟩
  exact HB.out.alloc (Nat.le_of_lt ls1) _

set_option maxRecDepth 100000 in
set_option maxHeartbeats 1000000 in
theorem op_35 (k d a n g : Int) (hu : usesK k = 35) (h1 : 1 ≤ k) (h2 : k ≤ 25) (hd : inR d U.regs) (ha : inR a U.regs) (hn : inR n U.sizes.length) (hg : g = -1 ∨ inR g U.regs) (K : Ck w c U Av cv Ab cb) (V : Env w) (hz : U.sizes.length ≤ 16) (hbl : U.blocks.length ≤ 2000) :
    Calls Tryd.prog 94 #[.pointer (some ⟨c, 0, none⟩), .agg #[.int .i64 k, .int .i64 d, .int .i64 a, .int .i64 0, .int .i64 0, .int .i64 n, .int .i64 g]] w fun x w' => x = .returned (.tuple #[]) ∧ Below w.heap.size w w' := by
  have HO := Lib.hid (fun (W : World) (V : Env W) => hu ▸ of_any k h1 h2 W V)
  have HV := Lib.hid V
  have lc := lt_cell K.c2
  have nc : c ≠ w.heap.size := by omega
  have nc' := nc.symm
  have lc1 : c < w.heap.size + 1 := by omega
  have HG : Hid ((!(g == -1)) = false ∨ inR g U.regs) := Lib.hid (hg.elim (fun h => .inl (by simp [h])) .inr)
  have Hd := Lib.hid hd
  have Ha := Lib.hid ha
  obtain ⟨n0, n1⟩ := hn
  have K0 := K.c0
  have K2 := K.c2
  have K4 := K.c4
  have K5 := K.c5
  obtain ⟨cl, hcl⟩ : ∃ cl, cl = classK k := ⟨_, rfl⟩
  obtain ⟨nm, hnm⟩ : ∃ nm, nm = nameK k := ⟨_, rfl⟩
  rw [← hcl, ← hnm] at HO
  clear hu hg K V hcl hnm hd ha
  have m1 : bits .and .i64 35 1 = 1 := by decide
  have m2 : bits .and .i64 35 2 = 2 := by decide
  have m4 : bits .and .i64 35 4 = 0 := by decide
  have m8 : bits .and .i64 35 8 = 0 := by decide
  have m16 : bits .and .i64 35 16 = 0 := by decide
  have m32 : bits .and .i64 35 32 = 32 := by decide
  have m64 : bits .and .i64 35 64 = 0 := by decide
  have m128 : bits .and .i64 35 128 = 0 := by decide
  go_enter Tryd.func94, Tryd.ntmps94
  go_wp2_with (first
    | (go_at_call 111; refine (HO.out _ (HV.out.below ((Below.refl _ _).alloc (Nat.le_refl _) _))).mono ?_; rintro x w1 ⟨rfl, hb1⟩; have hbw := bel_box1 hb1; have E0 := keep1 hbw K0; have E2 := keep1 hbw K2; have E4 := keep1 hbw K4; have E5 := keep1 hbw K5; have xb0 := box1 hb1 0 (.int .i64 (k)) rfl; have xb1 := box1 hb1 1 (.int .i64 (d)) rfl; have xb2 := box1 hb1 2 (.int .i64 (a)) rfl; have xb3 := box1 hb1 3 (.int .i64 (0)) rfl; have xb4 := box1 hb1 4 (.int .i64 (0)) rfl; have xb5 := box1 hb1 5 (.int .i64 (n)) rfl; have xb6 := box1 hb1 6 (.int .i64 (g)) rfl; have hsz := hbw.size; have ls1 := box_lt1 hb1; have nw : c ≠ w1.heap.size := ?nw; (case nw => omega); have nw' := nw.symm; have lw : c < w1.heap.size := ?nw; (case nw => omega); have nx : w.heap.size ≠ w1.heap.size := ?nw; (case nw => omega); have nx' := nx.symm; have HB := Lib.hid hbw; clear hb1 hbw)
    | (go_at_call 112; refine (reg_ok (U := U) _ _ ?rg ?rc).mono ?_; (case rg => first | exact .inl rfl | exact HG.out | exact .inr Hd.out | exact .inr Ha.out); (case rc => first | exact E2 | exact cellA E2 | (simp [*]; done)); rintro x w3 ⟨rfl, rfl⟩)
    | (go_at_call 91; refine (must_ok _ _ _).mono ?_; rintro x w3 ⟨rfl, rfl⟩))
  first | go_end0 | refine bodyPost_ret (results_none rfl _ _ _) rfl ?_
  refine ⟨rfl, ?_⟩
  exact HB.out.alloc (Nat.le_of_lt ls1) _

set_option maxRecDepth 100000 in
set_option maxHeartbeats 1000000 in
theorem op_38 (k a b n g : Int) (hu : usesK k = 38) (h1 : 1 ≤ k) (h2 : k ≤ 25) (ha : inR a U.regs) (hb : inR b U.regs) (hn : inR n U.sizes.length) (hg : g = -1 ∨ inR g U.regs) (K : Ck w c U Av cv Ab cb) (V : Env w) (hz : U.sizes.length ≤ 16) (hbl : U.blocks.length ≤ 2000) :
    Calls Tryd.prog 94 #[.pointer (some ⟨c, 0, none⟩), .agg #[.int .i64 k, .int .i64 0, .int .i64 a, .int .i64 b, .int .i64 0, .int .i64 n, .int .i64 g]] w fun x w' => x = .returned (.tuple #[]) ∧ Below w.heap.size w w' := by
  have HO := Lib.hid (fun (W : World) (V : Env W) => hu ▸ of_any k h1 h2 W V)
  have HV := Lib.hid V
  have lc := lt_cell K.c2
  have nc : c ≠ w.heap.size := by omega
  have nc' := nc.symm
  have lc1 : c < w.heap.size + 1 := by omega
  have HG : Hid ((!(g == -1)) = false ∨ inR g U.regs) := Lib.hid (hg.elim (fun h => .inl (by simp [h])) .inr)
  have Ha := Lib.hid ha
  have Hb := Lib.hid hb
  obtain ⟨n0, n1⟩ := hn
  have K0 := K.c0
  have K2 := K.c2
  have K4 := K.c4
  have K5 := K.c5
  obtain ⟨cl, hcl⟩ : ∃ cl, cl = classK k := ⟨_, rfl⟩
  obtain ⟨nm, hnm⟩ : ∃ nm, nm = nameK k := ⟨_, rfl⟩
  rw [← hcl, ← hnm] at HO
  clear hu hg K V hcl hnm ha hb
  have m1 : bits .and .i64 38 1 = 0 := by decide
  have m2 : bits .and .i64 38 2 = 2 := by decide
  have m4 : bits .and .i64 38 4 = 4 := by decide
  have m8 : bits .and .i64 38 8 = 0 := by decide
  have m16 : bits .and .i64 38 16 = 0 := by decide
  have m32 : bits .and .i64 38 32 = 32 := by decide
  have m64 : bits .and .i64 38 64 = 0 := by decide
  have m128 : bits .and .i64 38 128 = 0 := by decide
  go_enter Tryd.func94, Tryd.ntmps94
  go_wp2_with (first
    | (go_at_call 111; refine (HO.out _ (HV.out.below ((Below.refl _ _).alloc (Nat.le_refl _) _))).mono ?_; rintro x w1 ⟨rfl, hb1⟩; have hbw := bel_box1 hb1; have E0 := keep1 hbw K0; have E2 := keep1 hbw K2; have E4 := keep1 hbw K4; have E5 := keep1 hbw K5; have xb0 := box1 hb1 0 (.int .i64 (k)) rfl; have xb1 := box1 hb1 1 (.int .i64 (0)) rfl; have xb2 := box1 hb1 2 (.int .i64 (a)) rfl; have xb3 := box1 hb1 3 (.int .i64 (b)) rfl; have xb4 := box1 hb1 4 (.int .i64 (0)) rfl; have xb5 := box1 hb1 5 (.int .i64 (n)) rfl; have xb6 := box1 hb1 6 (.int .i64 (g)) rfl; have hsz := hbw.size; have ls1 := box_lt1 hb1; have nw : c ≠ w1.heap.size := ?nw; (case nw => omega); have nw' := nw.symm; have lw : c < w1.heap.size := ?nw; (case nw => omega); have nx : w.heap.size ≠ w1.heap.size := ?nw; (case nw => omega); have nx' := nx.symm; have HB := Lib.hid hbw; clear hb1 hbw)
    | (go_at_call 112; refine (reg_ok (U := U) _ _ ?rg ?rc).mono ?_; (case rg => first | exact .inl rfl | exact HG.out | exact .inr Ha.out | exact .inr Hb.out); (case rc => first | exact E2 | exact cellA E2 | (simp [*]; done)); rintro x w3 ⟨rfl, rfl⟩)
    | (go_at_call 91; refine (must_ok _ _ _).mono ?_; rintro x w3 ⟨rfl, rfl⟩))
  first | go_end0 | refine bodyPost_ret (results_none rfl _ _ _) rfl ?_
  refine ⟨rfl, ?_⟩
  exact HB.out.alloc (Nat.le_of_lt ls1) _

set_option maxRecDepth 100000 in
set_option maxHeartbeats 1000000 in
theorem op_65 (k d n g : Int) (hu : usesK k = 65) (h1 : 1 ≤ k) (h2 : k ≤ 25) (hd : inR d U.regs) (hn : inR n U.spill) (hg : g = -1 ∨ inR g U.regs) (K : Ck w c U Av cv Ab cb) (V : Env w) (hz : U.sizes.length ≤ 16) (hbl : U.blocks.length ≤ 2000) :
    Calls Tryd.prog 94 #[.pointer (some ⟨c, 0, none⟩), .agg #[.int .i64 k, .int .i64 d, .int .i64 0, .int .i64 0, .int .i64 0, .int .i64 n, .int .i64 g]] w fun x w' => x = .returned (.tuple #[]) ∧ Below w.heap.size w w' := by
  have HO := Lib.hid (fun (W : World) (V : Env W) => hu ▸ of_any k h1 h2 W V)
  have HV := Lib.hid V
  have lc := lt_cell K.c2
  have nc : c ≠ w.heap.size := by omega
  have nc' := nc.symm
  have lc1 : c < w.heap.size + 1 := by omega
  have HG : Hid ((!(g == -1)) = false ∨ inR g U.regs) := Lib.hid (hg.elim (fun h => .inl (by simp [h])) .inr)
  have Hd := Lib.hid hd
  obtain ⟨n0, n1⟩ := hn
  have K0 := K.c0
  have K2 := K.c2
  have K4 := K.c4
  have K5 := K.c5
  obtain ⟨cl, hcl⟩ : ∃ cl, cl = classK k := ⟨_, rfl⟩
  obtain ⟨nm, hnm⟩ : ∃ nm, nm = nameK k := ⟨_, rfl⟩
  rw [← hcl, ← hnm] at HO
  clear hu hg K V hcl hnm hd
  have m1 : bits .and .i64 65 1 = 1 := by decide
  have m2 : bits .and .i64 65 2 = 0 := by decide
  have m4 : bits .and .i64 65 4 = 0 := by decide
  have m8 : bits .and .i64 65 8 = 0 := by decide
  have m16 : bits .and .i64 65 16 = 0 := by decide
  have m32 : bits .and .i64 65 32 = 0 := by decide
  have m64 : bits .and .i64 65 64 = 64 := by decide
  have m128 : bits .and .i64 65 128 = 0 := by decide
  go_enter Tryd.func94, Tryd.ntmps94
  go_wp2_with (first
    | (go_at_call 111; refine (HO.out _ (HV.out.below ((Below.refl _ _).alloc (Nat.le_refl _) _))).mono ?_; rintro x w1 ⟨rfl, hb1⟩; have hbw := bel_box1 hb1; have E0 := keep1 hbw K0; have E2 := keep1 hbw K2; have E4 := keep1 hbw K4; have E5 := keep1 hbw K5; have xb0 := box1 hb1 0 (.int .i64 (k)) rfl; have xb1 := box1 hb1 1 (.int .i64 (d)) rfl; have xb2 := box1 hb1 2 (.int .i64 (0)) rfl; have xb3 := box1 hb1 3 (.int .i64 (0)) rfl; have xb4 := box1 hb1 4 (.int .i64 (0)) rfl; have xb5 := box1 hb1 5 (.int .i64 (n)) rfl; have xb6 := box1 hb1 6 (.int .i64 (g)) rfl; have hsz := hbw.size; have ls1 := box_lt1 hb1; have nw : c ≠ w1.heap.size := ?nw; (case nw => omega); have nw' := nw.symm; have lw : c < w1.heap.size := ?nw; (case nw => omega); have nx : w.heap.size ≠ w1.heap.size := ?nw; (case nw => omega); have nx' := nx.symm; have HB := Lib.hid hbw; clear hb1 hbw)
    | (go_at_call 112; refine (reg_ok (U := U) _ _ ?rg ?rc).mono ?_; (case rg => first | exact .inl rfl | exact HG.out | exact .inr Hd.out); (case rc => first | exact E2 | exact cellA E2 | (simp [*]; done)); rintro x w3 ⟨rfl, rfl⟩)
    | (go_at_call 91; refine (must_ok _ _ _).mono ?_; rintro x w3 ⟨rfl, rfl⟩))
  first | go_end0 | refine bodyPost_ret (results_none rfl _ _ _) rfl ?_
  refine ⟨rfl, ?_⟩
  exact HB.out.alloc (Nat.le_of_lt ls1) _

set_option maxRecDepth 100000 in
set_option maxHeartbeats 1000000 in
theorem op_66 (k a n g : Int) (hu : usesK k = 66) (h1 : 1 ≤ k) (h2 : k ≤ 25) (ha : inR a U.regs) (hn : inR n U.spill) (hg : g = -1 ∨ inR g U.regs) (K : Ck w c U Av cv Ab cb) (V : Env w) (hz : U.sizes.length ≤ 16) (hbl : U.blocks.length ≤ 2000) :
    Calls Tryd.prog 94 #[.pointer (some ⟨c, 0, none⟩), .agg #[.int .i64 k, .int .i64 0, .int .i64 a, .int .i64 0, .int .i64 0, .int .i64 n, .int .i64 g]] w fun x w' => x = .returned (.tuple #[]) ∧ Below w.heap.size w w' := by
  have HO := Lib.hid (fun (W : World) (V : Env W) => hu ▸ of_any k h1 h2 W V)
  have HV := Lib.hid V
  have lc := lt_cell K.c2
  have nc : c ≠ w.heap.size := by omega
  have nc' := nc.symm
  have lc1 : c < w.heap.size + 1 := by omega
  have HG : Hid ((!(g == -1)) = false ∨ inR g U.regs) := Lib.hid (hg.elim (fun h => .inl (by simp [h])) .inr)
  have Ha := Lib.hid ha
  obtain ⟨n0, n1⟩ := hn
  have K0 := K.c0
  have K2 := K.c2
  have K4 := K.c4
  have K5 := K.c5
  obtain ⟨cl, hcl⟩ : ∃ cl, cl = classK k := ⟨_, rfl⟩
  obtain ⟨nm, hnm⟩ : ∃ nm, nm = nameK k := ⟨_, rfl⟩
  rw [← hcl, ← hnm] at HO
  clear hu hg K V hcl hnm ha
  have m1 : bits .and .i64 66 1 = 0 := by decide
  have m2 : bits .and .i64 66 2 = 2 := by decide
  have m4 : bits .and .i64 66 4 = 0 := by decide
  have m8 : bits .and .i64 66 8 = 0 := by decide
  have m16 : bits .and .i64 66 16 = 0 := by decide
  have m32 : bits .and .i64 66 32 = 0 := by decide
  have m64 : bits .and .i64 66 64 = 64 := by decide
  have m128 : bits .and .i64 66 128 = 0 := by decide
  go_enter Tryd.func94, Tryd.ntmps94
  go_wp2_with (first
    | (go_at_call 111; refine (HO.out _ (HV.out.below ((Below.refl _ _).alloc (Nat.le_refl _) _))).mono ?_; rintro x w1 ⟨rfl, hb1⟩; have hbw := bel_box1 hb1; have E0 := keep1 hbw K0; have E2 := keep1 hbw K2; have E4 := keep1 hbw K4; have E5 := keep1 hbw K5; have xb0 := box1 hb1 0 (.int .i64 (k)) rfl; have xb1 := box1 hb1 1 (.int .i64 (0)) rfl; have xb2 := box1 hb1 2 (.int .i64 (a)) rfl; have xb3 := box1 hb1 3 (.int .i64 (0)) rfl; have xb4 := box1 hb1 4 (.int .i64 (0)) rfl; have xb5 := box1 hb1 5 (.int .i64 (n)) rfl; have xb6 := box1 hb1 6 (.int .i64 (g)) rfl; have hsz := hbw.size; have ls1 := box_lt1 hb1; have nw : c ≠ w1.heap.size := ?nw; (case nw => omega); have nw' := nw.symm; have lw : c < w1.heap.size := ?nw; (case nw => omega); have nx : w.heap.size ≠ w1.heap.size := ?nw; (case nw => omega); have nx' := nx.symm; have HB := Lib.hid hbw; clear hb1 hbw)
    | (go_at_call 112; refine (reg_ok (U := U) _ _ ?rg ?rc).mono ?_; (case rg => first | exact .inl rfl | exact HG.out | exact .inr Ha.out); (case rc => first | exact E2 | exact cellA E2 | (simp [*]; done)); rintro x w3 ⟨rfl, rfl⟩)
    | (go_at_call 91; refine (must_ok _ _ _).mono ?_; rintro x w3 ⟨rfl, rfl⟩))
  first | go_end0 | refine bodyPost_ret (results_none rfl _ _ _) rfl ?_
  refine ⟨rfl, ?_⟩
  exact HB.out.alloc (Nat.le_of_lt ls1) _

set_option maxRecDepth 100000 in
set_option maxHeartbeats 1000000 in
theorem op_2 (k a g : Int) (hu : usesK k = 2) (h1 : 1 ≤ k) (h2 : k ≤ 25) (ha : inR a U.regs) (hg : g = -1 ∨ inR g U.regs) (K : Ck w c U Av cv Ab cb) (V : Env w) (hz : U.sizes.length ≤ 16) (hbl : U.blocks.length ≤ 2000) :
    Calls Tryd.prog 94 #[.pointer (some ⟨c, 0, none⟩), .agg #[.int .i64 k, .int .i64 0, .int .i64 a, .int .i64 0, .int .i64 0, .int .i64 0, .int .i64 g]] w fun x w' => x = .returned (.tuple #[]) ∧ Below w.heap.size w w' := by
  have HO := Lib.hid (fun (W : World) (V : Env W) => hu ▸ of_any k h1 h2 W V)
  have HV := Lib.hid V
  have lc := lt_cell K.c2
  have nc : c ≠ w.heap.size := by omega
  have nc' := nc.symm
  have lc1 : c < w.heap.size + 1 := by omega
  have HG : Hid ((!(g == -1)) = false ∨ inR g U.regs) := Lib.hid (hg.elim (fun h => .inl (by simp [h])) .inr)
  have Ha := Lib.hid ha
  have K0 := K.c0
  have K2 := K.c2
  have K4 := K.c4
  have K5 := K.c5
  obtain ⟨cl, hcl⟩ : ∃ cl, cl = classK k := ⟨_, rfl⟩
  obtain ⟨nm, hnm⟩ : ∃ nm, nm = nameK k := ⟨_, rfl⟩
  rw [← hcl, ← hnm] at HO
  clear hu hg K V hcl hnm ha
  have m1 : bits .and .i64 2 1 = 0 := by decide
  have m2 : bits .and .i64 2 2 = 2 := by decide
  have m4 : bits .and .i64 2 4 = 0 := by decide
  have m8 : bits .and .i64 2 8 = 0 := by decide
  have m16 : bits .and .i64 2 16 = 0 := by decide
  have m32 : bits .and .i64 2 32 = 0 := by decide
  have m64 : bits .and .i64 2 64 = 0 := by decide
  have m128 : bits .and .i64 2 128 = 0 := by decide
  go_enter Tryd.func94, Tryd.ntmps94
  go_wp2_with (first
    | (go_at_call 111; refine (HO.out _ (HV.out.below ((Below.refl _ _).alloc (Nat.le_refl _) _))).mono ?_; rintro x w1 ⟨rfl, hb1⟩; have hbw := bel_box1 hb1; have E0 := keep1 hbw K0; have E2 := keep1 hbw K2; have E4 := keep1 hbw K4; have E5 := keep1 hbw K5; have xb0 := box1 hb1 0 (.int .i64 (k)) rfl; have xb1 := box1 hb1 1 (.int .i64 (0)) rfl; have xb2 := box1 hb1 2 (.int .i64 (a)) rfl; have xb3 := box1 hb1 3 (.int .i64 (0)) rfl; have xb4 := box1 hb1 4 (.int .i64 (0)) rfl; have xb5 := box1 hb1 5 (.int .i64 (0)) rfl; have xb6 := box1 hb1 6 (.int .i64 (g)) rfl; have hsz := hbw.size; have ls1 := box_lt1 hb1; have nw : c ≠ w1.heap.size := ?nw; (case nw => omega); have nw' := nw.symm; have lw : c < w1.heap.size := ?nw; (case nw => omega); have nx : w.heap.size ≠ w1.heap.size := ?nw; (case nw => omega); have nx' := nx.symm; have HB := Lib.hid hbw; clear hb1 hbw)
    | (go_at_call 112; refine (reg_ok (U := U) _ _ ?rg ?rc).mono ?_; (case rg => first | exact .inl rfl | exact HG.out | exact .inr Ha.out); (case rc => first | exact E2 | exact cellA E2 | (simp [*]; done)); rintro x w3 ⟨rfl, rfl⟩)
    | (go_at_call 91; refine (must_ok _ _ _).mono ?_; rintro x w3 ⟨rfl, rfl⟩))
  first | go_end0 | refine bodyPost_ret (results_none rfl _ _ _) rfl ?_
  refine ⟨rfl, ?_⟩
  exact HB.out.alloc (Nat.le_of_lt ls1) _

set_option maxRecDepth 100000 in
set_option maxHeartbeats 1000000 in
theorem op_130 (k a n g : Int) (hu : usesK k = 130) (h1 : 1 ≤ k) (h2 : k ≤ 25) (ha : inR a U.regs) (hn : inR n U.blocks.length) (hg : g = -1 ∨ inR g U.regs) (K : Ck w c U Av cv Ab cb) (V : Env w) (hz : U.sizes.length ≤ 16) (hbl : U.blocks.length ≤ 2000) :
    Calls Tryd.prog 94 #[.pointer (some ⟨c, 0, none⟩), .agg #[.int .i64 k, .int .i64 0, .int .i64 a, .int .i64 0, .int .i64 0, .int .i64 n, .int .i64 g]] w fun x w' => x = .returned (.tuple #[]) ∧ Below w.heap.size w w' := by
  have HO := Lib.hid (fun (W : World) (V : Env W) => hu ▸ of_any k h1 h2 W V)
  have HV := Lib.hid V
  have lc := lt_cell K.c2
  have nc : c ≠ w.heap.size := by omega
  have nc' := nc.symm
  have lc1 : c < w.heap.size + 1 := by omega
  have HG : Hid ((!(g == -1)) = false ∨ inR g U.regs) := Lib.hid (hg.elim (fun h => .inl (by simp [h])) .inr)
  have Ha := Lib.hid ha
  obtain ⟨n0, n1⟩ := hn
  have K0 := K.c0
  have K2 := K.c2
  have K4 := K.c4
  have K5 := K.c5
  obtain ⟨cl, hcl⟩ : ∃ cl, cl = classK k := ⟨_, rfl⟩
  obtain ⟨nm, hnm⟩ : ∃ nm, nm = nameK k := ⟨_, rfl⟩
  rw [← hcl, ← hnm] at HO
  clear hu hg K V hcl hnm ha
  have m1 : bits .and .i64 130 1 = 0 := by decide
  have m2 : bits .and .i64 130 2 = 2 := by decide
  have m4 : bits .and .i64 130 4 = 0 := by decide
  have m8 : bits .and .i64 130 8 = 0 := by decide
  have m16 : bits .and .i64 130 16 = 0 := by decide
  have m32 : bits .and .i64 130 32 = 0 := by decide
  have m64 : bits .and .i64 130 64 = 0 := by decide
  have m128 : bits .and .i64 130 128 = 128 := by decide
  go_enter Tryd.func94, Tryd.ntmps94
  go_wp2_with (first
    | (go_at_call 111; refine (HO.out _ (HV.out.below ((Below.refl _ _).alloc (Nat.le_refl _) _))).mono ?_; rintro x w1 ⟨rfl, hb1⟩; have hbw := bel_box1 hb1; have E0 := keep1 hbw K0; have E2 := keep1 hbw K2; have E4 := keep1 hbw K4; have E5 := keep1 hbw K5; have xb0 := box1 hb1 0 (.int .i64 (k)) rfl; have xb1 := box1 hb1 1 (.int .i64 (0)) rfl; have xb2 := box1 hb1 2 (.int .i64 (a)) rfl; have xb3 := box1 hb1 3 (.int .i64 (0)) rfl; have xb4 := box1 hb1 4 (.int .i64 (0)) rfl; have xb5 := box1 hb1 5 (.int .i64 (n)) rfl; have xb6 := box1 hb1 6 (.int .i64 (g)) rfl; have hsz := hbw.size; have ls1 := box_lt1 hb1; have nw : c ≠ w1.heap.size := ?nw; (case nw => omega); have nw' := nw.symm; have lw : c < w1.heap.size := ?nw; (case nw => omega); have nx : w.heap.size ≠ w1.heap.size := ?nw; (case nw => omega); have nx' := nx.symm; have HB := Lib.hid hbw; clear hb1 hbw)
    | (go_at_call 112; refine (reg_ok (U := U) _ _ ?rg ?rc).mono ?_; (case rg => first | exact .inl rfl | exact HG.out | exact .inr Ha.out); (case rc => first | exact E2 | exact cellA E2 | (simp [*]; done)); rintro x w3 ⟨rfl, rfl⟩)
    | (go_at_call 91; refine (must_ok _ _ _).mono ?_; rintro x w3 ⟨rfl, rfl⟩))
  first | go_end0 | refine bodyPost_ret (results_none rfl _ _ _) rfl ?_
  refine ⟨rfl, ?_⟩
  exact HB.out.alloc (Nat.le_of_lt ls1) _

end Go.Proofs.YtfkjkdoloamakaaDoor
