/- What Where, Reg, Kept of the program's Engine answer. -/
import Derived.Test.YtfkjkdoloamakaaDoorMg
import Derived.Test.YtfkjkdoloamakaaDoorMe
namespace Go.Proofs.YtfkjkdoloamakaaDoor
open Go.RowKit
set_option linter.unusedVariables false
set_option linter.unusedSimpArgs false
variable {F : Nat → Prop} {w0 w : World} {M0 : Nat → Prop} {p : Nat} {U : UnS} {s : St}

set_option maxRecDepth 100000 in
set_option maxHeartbeats 1000000 in
theorem where_any (G : UnGood U) (S : StGood U s) (E : EngX layP F w0 M0 w p U s) (b : Bool) (hb : b = decide (s.kind = 0)) :
    Calls Tryd.prog 33 #[.pointer (some ⟨p, 0, none⟩)] w fun e w' => e = .returned (.tuple #[.int .i64 (if b = true then (s.bl : Int) else 0), .int .i64 (if b = true then (s.pc : Int) else 0), .bool b]) ∧ Below w.heap.size w w' := by
  obtain ⟨L, Q⟩ := E
  have c10 := P10 Q.e
  have c11 := P11 Q.e
  have c13 := P13 Q.e
  have HG := Lib.hid G
  have HS := Lib.hid S
  have HQ := Lib.hid Q
  clear G S Q
  by_cases hk : s.kind = 0
  · have e : b = true := by rw [hb]; exact decide_eq_true hk
    subst e
    rw [hk] at c13
    simp only [if_true]
    clear hb hk
    go_enter Tryd.func33, Tryd.ntmps33
    go_wp2_with (go_at_call 51; refine (ok_any HG.out HS.out HQ.out.x).mono ?_; rintro e w' ⟨rfl, rfl⟩)
    go_quiet (fail)
    go_wp2
    go_ret3
    exact ⟨rfl, drewN_below (Below.refl _ _) _⟩
  · have e : b = false := by rw [hb]; exact decide_eq_false hk
    subst e
    obtain ⟨kd, hkd⟩ : ∃ x, x = s.kind := ⟨_, rfl⟩
    rw [← hkd] at c13 hk
    have hkb : (kd != 0) = true := by simpa using hk
    simp only [Bool.false_eq_true, if_false]
    clear hb hkd hk
    go_enter Tryd.func33, Tryd.ntmps33
    go_wp2_with (go_at_call 51; refine (ok_any HG.out HS.out HQ.out.x).mono ?_; rintro e w' ⟨rfl, rfl⟩)
    go_ret3
    exact ⟨rfl, Below.refl _ _⟩

theorem regC_any {L : EngL} (Q : Eng layP F w p U s L) (c : Nat) (hc : w.cell? ⟨c, 0, none⟩ = some (.pointer (some ⟨p, 0, none⟩))) : Calls Tryd.prog 57 #[.pointer (some ⟨c, 0, none⟩)] w fun e w' => e = .returned (.slice (some ⟨L.gr, 0, none⟩) s.regs.length s.regs.length) ∧ w = w' := by
  have h := P6 Q
  clear Q
  go_enter Tryd.func57, Tryd.ntmps57
  go_wp2
  go_ret
  exact ⟨rfl, rfl⟩

set_option maxRecDepth 100000 in
set_option maxHeartbeats 1000000 in
theorem regP_in (G : UnGood U) (S : StGood U s) (E : EngX layP F w0 M0 w p U s) (c : Nat) (hc : w.cell? ⟨c, 0, none⟩ = some (.pointer (some ⟨p, 0, none⟩))) (r : Int) (h0 : 0 ≤ r) (h1 : r < s.regs.length) :
    Calls Tryd.prog 56 #[.pointer (some ⟨p, 0, none⟩), .int .i64 r, .func (.func 57) #[] #[.pointer (some ⟨c, 0, none⟩)]] w fun e w' => e = .returned (.tuple #[.agg #[.int .i64 (s.reg r).1, .int .i64 (s.reg r).2], .int .i64 0]) ∧ Below w.heap.size w w' := by
  obtain ⟨L, Q⟩ := E
  obtain ⟨W2, hW2⟩ : ∃ W2, W2 = (w.alloc (.cells #[.int .i64 0, .int .i64 0] 85)).alloc (.cells #[.int .i64 0, .int .i64 0] 85) := ⟨_, rfl⟩
  have hb2 : Below w.heap.size w W2 := by rw [hW2]; exact ((Below.refl _ _).alloc (Nat.le_refl _) _).alloc (by simp) _
  have bA : Blk W2 w.heap.size 85 #[.int .i64 0, .int .i64 0] := by rw [hW2]; exact (blk_new w rfl _ _).alloc _
  have bB : Blk W2 (w.heap.size + 1) 85 #[.int .i64 0, .int .i64 0] := by rw [hW2]; exact blk_new _ (by simp) _ _
  have Q2 := Q.below hb2
  have hc2 := (hb2.cell (p := ⟨c, 0, none⟩) (lt_cell hc)).trans hc
  obtain ⟨y0, hy0⟩ : ∃ x, x = (s.reg r).1 := ⟨_, rfl⟩
  obtain ⟨y1, hy1⟩ : ∃ x, x = (s.reg r).2 := ⟨_, rfl⟩
  rw [← hy0, ← hy1]
  have a0 : W2.cell? ⟨w.heap.size, 0, none⟩ = some (.int .i64 0) := (bA.cell 0).trans rfl
  have a1 : W2.cell? ⟨w.heap.size, 1, none⟩ = some (.int .i64 0) := (bA.cell 1).trans rfl
  have n0 : W2.cell? ⟨w.heap.size + 1, 0, none⟩ = some (.int .i64 0) := (bB.cell 0).trans rfl
  have n1 : W2.cell? ⟨w.heap.size + 1, 1, none⟩ = some (.int .i64 0) := (bB.cell 1).trans rfl
  have f0 := bA.frozen 0
  have f1 := bA.frozen 1
  have hl : s.regs.length ≤ 4096 := by have := G.r2; have := S.regs; omega
  have r0 := reg0 Q2.e h0 h1
  have r1 := reg1 Q2.e h0 h1
  rw [← hy0] at r0
  rw [← hy1] at r1
  have l0 := lt_cell r0
  have HB2 := Lib.hid hb2
  have HQ2 := Lib.hid Q2
  have HG := Lib.hid G
  have HS := Lib.hid S
  have HC := Lib.hid hc2
  have HW2 := Lib.hid hW2
  clear Q Q2 G S hc hc2 hW2 hb2 bA bB hy0 hy1
  go_enter Tryd.func56, Tryd.ntmps56
  go_wp2_with (first
    | (go_at_call 51; (rw [← HW2.out]); refine (ok_any HG.out HS.out HQ2.out.x).mono ?_; rintro e w' ⟨rfl, rfl⟩)
    | (go_at_call 57; refine (regC_any HQ2.out.e c HC.out).mono ?_; rintro e w' ⟨rfl, rfl⟩))
  refine bodyPost_ret (v := .tuple #[.agg #[.int .i64 y0, .int .i64 y1], .int .i64 0]) (by simp [results, Tryd.results56, go_sem, *]) rfl ⟨rfl, ?_⟩
  exact (HB2.out.setCell (Nat.le_refl _) _).setCell (Nat.le_refl _) _

set_option maxRecDepth 100000 in
set_option maxHeartbeats 1000000 in
theorem reg_in (G : UnGood U) (S : StGood U s) (E : EngX layP F w0 M0 w p U s) (r : Int) (h0 : 0 ≤ r) (h1 : r < s.regs.length) :
    Calls Tryd.prog 30 #[.pointer (some ⟨p, 0, none⟩), .int .i64 r] w fun e w' => e = .returned (.tuple #[.agg #[.int .i64 (s.reg r).1, .int .i64 (s.reg r).2], .int .i64 0]) ∧ Below w.heap.size w w' := by
  obtain ⟨W2, hW2⟩ : ∃ W2, W2 = (w.alloc (.cells #[.pointer (some ⟨p, 0, none⟩)] 47)).alloc (.cells #[.int .i64 0, .int .i64 0] 85) := ⟨_, rfl⟩
  have hb2 : Below w.heap.size w W2 := by rw [hW2]; exact ((Below.refl _ _).alloc (Nat.le_refl _) _).alloc (by simp) _
  have bA : Blk W2 w.heap.size 47 #[.pointer (some ⟨p, 0, none⟩)] := by rw [hW2]; exact (blk_new w rfl _ _).alloc _
  have bB : Blk W2 (w.heap.size + 1) 85 #[.int .i64 0, .int .i64 0] := by rw [hW2]; exact blk_new _ (by simp) _ _
  have hmf : ∀ (fn : Fn) (first cap : Array Value) (w : World), (Instr.makeFunc fn first cap).run Tryd.prog w = .ok (.func fn first cap) w := fun _ _ _ _ => rfl
  have a0 : W2.cell? ⟨w.heap.size, 0, none⟩ = some (.pointer (some ⟨p, 0, none⟩)) := (bA.cell 0).trans rfl
  have kp := regP_in G S (E.below hb2) w.heap.size a0 r h0 h1
  obtain ⟨y0, hy0⟩ : ∃ x, x = (s.reg r).1 := ⟨_, rfl⟩
  obtain ⟨y1, hy1⟩ : ∃ x, x = (s.reg r).2 := ⟨_, rfl⟩
  rw [← hy0, ← hy1] at kp ⊢
  have HKP := Lib.hid kp
  have HB2 := Lib.hid hb2
  have HBB := Lib.hid bB
  have HW2 := Lib.hid hW2
  have lB := bB.lt
  clear G S E kp hb2 bB bA hW2 hy0 hy1
  go_enter Tryd.func30, Tryd.ntmps30
  go_wp2_with (go_at_call 56; (rw [← HW2.out]); refine (HKP.out).mono ?_; rintro e w2 ⟨rfl, hb⟩; have hbk := HBB.out.fr (Fr.of_below (M := fun _ => False) hb) not_false; have z0 : w2.cell? ⟨w.heap.size + 1, 0, none⟩ = some (.int .i64 0) := (hbk.cell 0).trans rfl; have z1 : w2.cell? ⟨w.heap.size + 1, 1, none⟩ = some (.int .i64 0) := (hbk.cell 1).trans rfl; have q0 := hbk.frozen 0; have q1 := hbk.frozen 1; have HB := Lib.hid hb; clear hb hbk)
  refine bodyPost_ret (v := .tuple #[.agg #[.int .i64 y0, .int .i64 y1], .int .i64 0]) (by simp [results, Tryd.results30, go_sem, *]) rfl ⟨rfl, ?_⟩
  exact ((HB2.out.trans (HB.out.mono HB2.out.size)).setCell (by simp) _).setCell (by simp) _

set_option maxRecDepth 100000 in
set_option maxHeartbeats 1000000 in
theorem regP_lo (G : UnGood U) (S : StGood U s) (E : EngX layP F w0 M0 w p U s) (c : Nat) (hc : w.cell? ⟨c, 0, none⟩ = some (.pointer (some ⟨p, 0, none⟩))) (r : Int) (h0 : r < 0) :
    Calls Tryd.prog 56 #[.pointer (some ⟨p, 0, none⟩), .int .i64 r, .func (.func 57) #[] #[.pointer (some ⟨c, 0, none⟩)]] w fun e w' => e = .returned (.tuple #[.agg #[.int .i64 0, .int .i64 0], .int .i64 2]) ∧ Below w.heap.size w w' := by
  obtain ⟨L, Q⟩ := E
  obtain ⟨W2, hW2⟩ : ∃ W2, W2 = (w.alloc (.cells #[.int .i64 0, .int .i64 0] 85)).alloc (.cells #[.int .i64 0, .int .i64 0] 85) := ⟨_, rfl⟩
  have hb2 : Below w.heap.size w W2 := by rw [hW2]; exact ((Below.refl _ _).alloc (Nat.le_refl _) _).alloc (by simp) _
  have bA : Blk W2 w.heap.size 85 #[.int .i64 0, .int .i64 0] := by rw [hW2]; exact (blk_new w rfl _ _).alloc _
  have bB : Blk W2 (w.heap.size + 1) 85 #[.int .i64 0, .int .i64 0] := by rw [hW2]; exact blk_new _ (by simp) _ _
  have Q2 := Q.below hb2
  have hc2 := (hb2.cell (p := ⟨c, 0, none⟩) (lt_cell hc)).trans hc
  have a0 : W2.cell? ⟨w.heap.size, 0, none⟩ = some (.int .i64 0) := (bA.cell 0).trans rfl
  have a1 : W2.cell? ⟨w.heap.size, 1, none⟩ = some (.int .i64 0) := (bA.cell 1).trans rfl
  have n0 : W2.cell? ⟨w.heap.size + 1, 0, none⟩ = some (.int .i64 0) := (bB.cell 0).trans rfl
  have n1 : W2.cell? ⟨w.heap.size + 1, 1, none⟩ = some (.int .i64 0) := (bB.cell 1).trans rfl
  have f0 := bA.frozen 0
  have f1 := bA.frozen 1
  have hl : s.regs.length ≤ 4096 := by have := G.r2; have := S.regs; omega
  have HB2 := Lib.hid hb2
  have HQ2 := Lib.hid Q2
  have HG := Lib.hid G
  have HS := Lib.hid S
  have HC := Lib.hid hc2
  have HW2 := Lib.hid hW2
  clear Q Q2 G S hc hc2 hW2 hb2 bA bB
  go_enter Tryd.func56, Tryd.ntmps56
  go_wp2_with (first
    | (go_at_call 51; (rw [← HW2.out]); refine (ok_any HG.out HS.out HQ2.out.x).mono ?_; rintro e w' ⟨rfl, rfl⟩)
    | (go_at_call 57; refine (regC_any HQ2.out.e c HC.out).mono ?_; rintro e w' ⟨rfl, rfl⟩))
  refine bodyPost_ret (v := .tuple #[.agg #[.int .i64 0, .int .i64 0], .int .i64 2]) (by simp [results, Tryd.results56, go_sem, *]) rfl ⟨rfl, ?_⟩
  exact (HB2.out.setCell (Nat.le_refl _) _).setCell (Nat.le_refl _) _

set_option maxRecDepth 100000 in
set_option maxHeartbeats 1000000 in
theorem reg_lo (G : UnGood U) (S : StGood U s) (E : EngX layP F w0 M0 w p U s) (r : Int) (h0 : r < 0) :
    Calls Tryd.prog 30 #[.pointer (some ⟨p, 0, none⟩), .int .i64 r] w fun e w' => e = .returned (.tuple #[.agg #[.int .i64 0, .int .i64 0], .int .i64 2]) ∧ Below w.heap.size w w' := by
  obtain ⟨W2, hW2⟩ : ∃ W2, W2 = (w.alloc (.cells #[.pointer (some ⟨p, 0, none⟩)] 47)).alloc (.cells #[.int .i64 0, .int .i64 0] 85) := ⟨_, rfl⟩
  have hb2 : Below w.heap.size w W2 := by rw [hW2]; exact ((Below.refl _ _).alloc (Nat.le_refl _) _).alloc (by simp) _
  have bA : Blk W2 w.heap.size 47 #[.pointer (some ⟨p, 0, none⟩)] := by rw [hW2]; exact (blk_new w rfl _ _).alloc _
  have bB : Blk W2 (w.heap.size + 1) 85 #[.int .i64 0, .int .i64 0] := by rw [hW2]; exact blk_new _ (by simp) _ _
  have hmf : ∀ (fn : Fn) (first cap : Array Value) (w : World), (Instr.makeFunc fn first cap).run Tryd.prog w = .ok (.func fn first cap) w := fun _ _ _ _ => rfl
  have a0 : W2.cell? ⟨w.heap.size, 0, none⟩ = some (.pointer (some ⟨p, 0, none⟩)) := (bA.cell 0).trans rfl
  have kp := regP_lo G S (E.below hb2) w.heap.size a0 r h0
  have HKP := Lib.hid kp
  have HB2 := Lib.hid hb2
  have HBB := Lib.hid bB
  have HW2 := Lib.hid hW2
  have lB := bB.lt
  clear G S E kp hb2 bB bA hW2
  go_enter Tryd.func30, Tryd.ntmps30
  go_wp2_with (go_at_call 56; (rw [← HW2.out]); refine (HKP.out).mono ?_; rintro e w2 ⟨rfl, hb⟩; have hbk := HBB.out.fr (Fr.of_below (M := fun _ => False) hb) not_false; have z0 : w2.cell? ⟨w.heap.size + 1, 0, none⟩ = some (.int .i64 0) := (hbk.cell 0).trans rfl; have z1 : w2.cell? ⟨w.heap.size + 1, 1, none⟩ = some (.int .i64 0) := (hbk.cell 1).trans rfl; have q0 := hbk.frozen 0; have q1 := hbk.frozen 1; have HB := Lib.hid hb; clear hb hbk)
  refine bodyPost_ret (v := .tuple #[.agg #[.int .i64 0, .int .i64 0], .int .i64 2]) (by simp [results, Tryd.results30, go_sem, *]) rfl ⟨rfl, ?_⟩
  exact ((HB2.out.trans (HB.out.mono HB2.out.size)).setCell (by simp) _).setCell (by simp) _

set_option maxRecDepth 100000 in
set_option maxHeartbeats 1000000 in
theorem regP_hi (G : UnGood U) (S : StGood U s) (E : EngX layP F w0 M0 w p U s) (c : Nat) (hc : w.cell? ⟨c, 0, none⟩ = some (.pointer (some ⟨p, 0, none⟩))) (r : Int) (h0 : 0 ≤ r) (h1 : (s.regs.length : Int) ≤ r) :
    Calls Tryd.prog 56 #[.pointer (some ⟨p, 0, none⟩), .int .i64 r, .func (.func 57) #[] #[.pointer (some ⟨c, 0, none⟩)]] w fun e w' => e = .returned (.tuple #[.agg #[.int .i64 0, .int .i64 0], .int .i64 2]) ∧ Below w.heap.size w w' := by
  obtain ⟨L, Q⟩ := E
  obtain ⟨W2, hW2⟩ : ∃ W2, W2 = (w.alloc (.cells #[.int .i64 0, .int .i64 0] 85)).alloc (.cells #[.int .i64 0, .int .i64 0] 85) := ⟨_, rfl⟩
  have hb2 : Below w.heap.size w W2 := by rw [hW2]; exact ((Below.refl _ _).alloc (Nat.le_refl _) _).alloc (by simp) _
  have bA : Blk W2 w.heap.size 85 #[.int .i64 0, .int .i64 0] := by rw [hW2]; exact (blk_new w rfl _ _).alloc _
  have bB : Blk W2 (w.heap.size + 1) 85 #[.int .i64 0, .int .i64 0] := by rw [hW2]; exact blk_new _ (by simp) _ _
  have Q2 := Q.below hb2
  have hc2 := (hb2.cell (p := ⟨c, 0, none⟩) (lt_cell hc)).trans hc
  have a0 : W2.cell? ⟨w.heap.size, 0, none⟩ = some (.int .i64 0) := (bA.cell 0).trans rfl
  have a1 : W2.cell? ⟨w.heap.size, 1, none⟩ = some (.int .i64 0) := (bA.cell 1).trans rfl
  have n0 : W2.cell? ⟨w.heap.size + 1, 0, none⟩ = some (.int .i64 0) := (bB.cell 0).trans rfl
  have n1 : W2.cell? ⟨w.heap.size + 1, 1, none⟩ = some (.int .i64 0) := (bB.cell 1).trans rfl
  have f0 := bA.frozen 0
  have f1 := bA.frozen 1
  have hl : s.regs.length ≤ 4096 := by have := G.r2; have := S.regs; omega
  have HB2 := Lib.hid hb2
  have HQ2 := Lib.hid Q2
  have HG := Lib.hid G
  have HS := Lib.hid S
  have HC := Lib.hid hc2
  have HW2 := Lib.hid hW2
  clear Q Q2 G S hc hc2 hW2 hb2 bA bB
  go_enter Tryd.func56, Tryd.ntmps56
  go_wp2_with (first
    | (go_at_call 51; (rw [← HW2.out]); refine (ok_any HG.out HS.out HQ2.out.x).mono ?_; rintro e w' ⟨rfl, rfl⟩)
    | (go_at_call 57; refine (regC_any HQ2.out.e c HC.out).mono ?_; rintro e w' ⟨rfl, rfl⟩))
  refine bodyPost_ret (v := .tuple #[.agg #[.int .i64 0, .int .i64 0], .int .i64 2]) (by simp [results, Tryd.results56, go_sem, *]) rfl ⟨rfl, ?_⟩
  exact (HB2.out.setCell (Nat.le_refl _) _).setCell (Nat.le_refl _) _

set_option maxRecDepth 100000 in
set_option maxHeartbeats 1000000 in
theorem reg_hi (G : UnGood U) (S : StGood U s) (E : EngX layP F w0 M0 w p U s) (r : Int) (h0 : 0 ≤ r) (h1 : (s.regs.length : Int) ≤ r) :
    Calls Tryd.prog 30 #[.pointer (some ⟨p, 0, none⟩), .int .i64 r] w fun e w' => e = .returned (.tuple #[.agg #[.int .i64 0, .int .i64 0], .int .i64 2]) ∧ Below w.heap.size w w' := by
  obtain ⟨W2, hW2⟩ : ∃ W2, W2 = (w.alloc (.cells #[.pointer (some ⟨p, 0, none⟩)] 47)).alloc (.cells #[.int .i64 0, .int .i64 0] 85) := ⟨_, rfl⟩
  have hb2 : Below w.heap.size w W2 := by rw [hW2]; exact ((Below.refl _ _).alloc (Nat.le_refl _) _).alloc (by simp) _
  have bA : Blk W2 w.heap.size 47 #[.pointer (some ⟨p, 0, none⟩)] := by rw [hW2]; exact (blk_new w rfl _ _).alloc _
  have bB : Blk W2 (w.heap.size + 1) 85 #[.int .i64 0, .int .i64 0] := by rw [hW2]; exact blk_new _ (by simp) _ _
  have hmf : ∀ (fn : Fn) (first cap : Array Value) (w : World), (Instr.makeFunc fn first cap).run Tryd.prog w = .ok (.func fn first cap) w := fun _ _ _ _ => rfl
  have a0 : W2.cell? ⟨w.heap.size, 0, none⟩ = some (.pointer (some ⟨p, 0, none⟩)) := (bA.cell 0).trans rfl
  have kp := regP_hi G S (E.below hb2) w.heap.size a0 r h0 h1
  have HKP := Lib.hid kp
  have HB2 := Lib.hid hb2
  have HBB := Lib.hid bB
  have HW2 := Lib.hid hW2
  have lB := bB.lt
  clear G S E kp hb2 bB bA hW2
  go_enter Tryd.func30, Tryd.ntmps30
  go_wp2_with (go_at_call 56; (rw [← HW2.out]); refine (HKP.out).mono ?_; rintro e w2 ⟨rfl, hb⟩; have hbk := HBB.out.fr (Fr.of_below (M := fun _ => False) hb) not_false; have z0 : w2.cell? ⟨w.heap.size + 1, 0, none⟩ = some (.int .i64 0) := (hbk.cell 0).trans rfl; have z1 : w2.cell? ⟨w.heap.size + 1, 1, none⟩ = some (.int .i64 0) := (hbk.cell 1).trans rfl; have q0 := hbk.frozen 0; have q1 := hbk.frozen 1; have HB := Lib.hid hb; clear hb hbk)
  refine bodyPost_ret (v := .tuple #[.agg #[.int .i64 0, .int .i64 0], .int .i64 2]) (by simp [results, Tryd.results30, go_sem, *]) rfl ⟨rfl, ?_⟩
  exact ((HB2.out.trans (HB.out.mono HB2.out.size)).setCell (by simp) _).setCell (by simp) _

theorem keptC_any {L : EngL} (Q : Eng layP F w p U s L) (c : Nat) (hc : w.cell? ⟨c, 0, none⟩ = some (.pointer (some ⟨p, 0, none⟩))) : Calls Tryd.prog 62 #[.pointer (some ⟨c, 0, none⟩)] w fun e w' => e = .returned (.slice (some ⟨L.gc, 0, none⟩) s.kept.length s.kept.length) ∧ w = w' := by
  have h := P7 Q
  clear Q
  go_enter Tryd.func62, Tryd.ntmps62
  go_wp2
  go_ret
  exact ⟨rfl, rfl⟩

set_option maxRecDepth 100000 in
set_option maxHeartbeats 1000000 in
theorem keptP_in (G : UnGood U) (S : StGood U s) (E : EngX layP F w0 M0 w p U s) (c : Nat) (hc : w.cell? ⟨c, 0, none⟩ = some (.pointer (some ⟨p, 0, none⟩))) (r : Int) (h0 : 0 ≤ r) (h1 : r < s.kept.length) :
    Calls Tryd.prog 56 #[.pointer (some ⟨p, 0, none⟩), .int .i64 r, .func (.func 62) #[] #[.pointer (some ⟨c, 0, none⟩)]] w fun e w' => e = .returned (.tuple #[.agg #[.int .i64 (s.kept.getD r.toNat (0, 0)).1, .int .i64 (s.kept.getD r.toNat (0, 0)).2], .int .i64 0]) ∧ Below w.heap.size w w' := by
  obtain ⟨L, Q⟩ := E
  obtain ⟨W2, hW2⟩ : ∃ W2, W2 = (w.alloc (.cells #[.int .i64 0, .int .i64 0] 85)).alloc (.cells #[.int .i64 0, .int .i64 0] 85) := ⟨_, rfl⟩
  have hb2 : Below w.heap.size w W2 := by rw [hW2]; exact ((Below.refl _ _).alloc (Nat.le_refl _) _).alloc (by simp) _
  have bA : Blk W2 w.heap.size 85 #[.int .i64 0, .int .i64 0] := by rw [hW2]; exact (blk_new w rfl _ _).alloc _
  have bB : Blk W2 (w.heap.size + 1) 85 #[.int .i64 0, .int .i64 0] := by rw [hW2]; exact blk_new _ (by simp) _ _
  have Q2 := Q.below hb2
  have hc2 := (hb2.cell (p := ⟨c, 0, none⟩) (lt_cell hc)).trans hc
  obtain ⟨y0, hy0⟩ : ∃ x, x = (s.kept.getD r.toNat (0, 0)).1 := ⟨_, rfl⟩
  obtain ⟨y1, hy1⟩ : ∃ x, x = (s.kept.getD r.toNat (0, 0)).2 := ⟨_, rfl⟩
  rw [← hy0, ← hy1]
  have a0 : W2.cell? ⟨w.heap.size, 0, none⟩ = some (.int .i64 0) := (bA.cell 0).trans rfl
  have a1 : W2.cell? ⟨w.heap.size, 1, none⟩ = some (.int .i64 0) := (bA.cell 1).trans rfl
  have n0 : W2.cell? ⟨w.heap.size + 1, 0, none⟩ = some (.int .i64 0) := (bB.cell 0).trans rfl
  have n1 : W2.cell? ⟨w.heap.size + 1, 1, none⟩ = some (.int .i64 0) := (bB.cell 1).trans rfl
  have f0 := bA.frozen 0
  have f1 := bA.frozen 1
  have hl : s.kept.length ≤ 4096 := by have := G.sp2; have := S.kept; omega
  have r0 := kept0 Q2.e h0 h1
  have r1 := kept1 Q2.e h0 h1
  rw [← hy0] at r0
  rw [← hy1] at r1
  have l0 := lt_cell r0
  have HB2 := Lib.hid hb2
  have HQ2 := Lib.hid Q2
  have HG := Lib.hid G
  have HS := Lib.hid S
  have HC := Lib.hid hc2
  have HW2 := Lib.hid hW2
  clear Q Q2 G S hc hc2 hW2 hb2 bA bB hy0 hy1
  go_enter Tryd.func56, Tryd.ntmps56
  go_wp2_with (first
    | (go_at_call 51; (rw [← HW2.out]); refine (ok_any HG.out HS.out HQ2.out.x).mono ?_; rintro e w' ⟨rfl, rfl⟩)
    | (go_at_call 62; refine (keptC_any HQ2.out.e c HC.out).mono ?_; rintro e w' ⟨rfl, rfl⟩))
  refine bodyPost_ret (v := .tuple #[.agg #[.int .i64 y0, .int .i64 y1], .int .i64 0]) (by simp [results, Tryd.results56, go_sem, *]) rfl ⟨rfl, ?_⟩
  exact (HB2.out.setCell (Nat.le_refl _) _).setCell (Nat.le_refl _) _

set_option maxRecDepth 100000 in
set_option maxHeartbeats 1000000 in
theorem kept_in (G : UnGood U) (S : StGood U s) (E : EngX layP F w0 M0 w p U s) (r : Int) (h0 : 0 ≤ r) (h1 : r < s.kept.length) :
    Calls Tryd.prog 32 #[.pointer (some ⟨p, 0, none⟩), .int .i64 r] w fun e w' => e = .returned (.tuple #[.agg #[.int .i64 (s.kept.getD r.toNat (0, 0)).1, .int .i64 (s.kept.getD r.toNat (0, 0)).2], .int .i64 0]) ∧ Below w.heap.size w w' := by
  obtain ⟨W2, hW2⟩ : ∃ W2, W2 = (w.alloc (.cells #[.pointer (some ⟨p, 0, none⟩)] 47)).alloc (.cells #[.int .i64 0, .int .i64 0] 85) := ⟨_, rfl⟩
  have hb2 : Below w.heap.size w W2 := by rw [hW2]; exact ((Below.refl _ _).alloc (Nat.le_refl _) _).alloc (by simp) _
  have bA : Blk W2 w.heap.size 47 #[.pointer (some ⟨p, 0, none⟩)] := by rw [hW2]; exact (blk_new w rfl _ _).alloc _
  have bB : Blk W2 (w.heap.size + 1) 85 #[.int .i64 0, .int .i64 0] := by rw [hW2]; exact blk_new _ (by simp) _ _
  have hmf : ∀ (fn : Fn) (first cap : Array Value) (w : World), (Instr.makeFunc fn first cap).run Tryd.prog w = .ok (.func fn first cap) w := fun _ _ _ _ => rfl
  have a0 : W2.cell? ⟨w.heap.size, 0, none⟩ = some (.pointer (some ⟨p, 0, none⟩)) := (bA.cell 0).trans rfl
  have kp := keptP_in G S (E.below hb2) w.heap.size a0 r h0 h1
  obtain ⟨y0, hy0⟩ : ∃ x, x = (s.kept.getD r.toNat (0, 0)).1 := ⟨_, rfl⟩
  obtain ⟨y1, hy1⟩ : ∃ x, x = (s.kept.getD r.toNat (0, 0)).2 := ⟨_, rfl⟩
  rw [← hy0, ← hy1] at kp ⊢
  have HKP := Lib.hid kp
  have HB2 := Lib.hid hb2
  have HBB := Lib.hid bB
  have HW2 := Lib.hid hW2
  have lB := bB.lt
  clear G S E kp hb2 bB bA hW2 hy0 hy1
  go_enter Tryd.func32, Tryd.ntmps32
  go_wp2_with (go_at_call 56; (rw [← HW2.out]); refine (HKP.out).mono ?_; rintro e w2 ⟨rfl, hb⟩; have hbk := HBB.out.fr (Fr.of_below (M := fun _ => False) hb) not_false; have z0 : w2.cell? ⟨w.heap.size + 1, 0, none⟩ = some (.int .i64 0) := (hbk.cell 0).trans rfl; have z1 : w2.cell? ⟨w.heap.size + 1, 1, none⟩ = some (.int .i64 0) := (hbk.cell 1).trans rfl; have q0 := hbk.frozen 0; have q1 := hbk.frozen 1; have HB := Lib.hid hb; clear hb hbk)
  refine bodyPost_ret (v := .tuple #[.agg #[.int .i64 y0, .int .i64 y1], .int .i64 0]) (by simp [results, Tryd.results32, go_sem, *]) rfl ⟨rfl, ?_⟩
  exact ((HB2.out.trans (HB.out.mono HB2.out.size)).setCell (by simp) _).setCell (by simp) _

set_option maxRecDepth 100000 in
set_option maxHeartbeats 1000000 in
theorem keptP_lo (G : UnGood U) (S : StGood U s) (E : EngX layP F w0 M0 w p U s) (c : Nat) (hc : w.cell? ⟨c, 0, none⟩ = some (.pointer (some ⟨p, 0, none⟩))) (r : Int) (h0 : r < 0) :
    Calls Tryd.prog 56 #[.pointer (some ⟨p, 0, none⟩), .int .i64 r, .func (.func 62) #[] #[.pointer (some ⟨c, 0, none⟩)]] w fun e w' => e = .returned (.tuple #[.agg #[.int .i64 0, .int .i64 0], .int .i64 2]) ∧ Below w.heap.size w w' := by
  obtain ⟨L, Q⟩ := E
  obtain ⟨W2, hW2⟩ : ∃ W2, W2 = (w.alloc (.cells #[.int .i64 0, .int .i64 0] 85)).alloc (.cells #[.int .i64 0, .int .i64 0] 85) := ⟨_, rfl⟩
  have hb2 : Below w.heap.size w W2 := by rw [hW2]; exact ((Below.refl _ _).alloc (Nat.le_refl _) _).alloc (by simp) _
  have bA : Blk W2 w.heap.size 85 #[.int .i64 0, .int .i64 0] := by rw [hW2]; exact (blk_new w rfl _ _).alloc _
  have bB : Blk W2 (w.heap.size + 1) 85 #[.int .i64 0, .int .i64 0] := by rw [hW2]; exact blk_new _ (by simp) _ _
  have Q2 := Q.below hb2
  have hc2 := (hb2.cell (p := ⟨c, 0, none⟩) (lt_cell hc)).trans hc
  have a0 : W2.cell? ⟨w.heap.size, 0, none⟩ = some (.int .i64 0) := (bA.cell 0).trans rfl
  have a1 : W2.cell? ⟨w.heap.size, 1, none⟩ = some (.int .i64 0) := (bA.cell 1).trans rfl
  have n0 : W2.cell? ⟨w.heap.size + 1, 0, none⟩ = some (.int .i64 0) := (bB.cell 0).trans rfl
  have n1 : W2.cell? ⟨w.heap.size + 1, 1, none⟩ = some (.int .i64 0) := (bB.cell 1).trans rfl
  have f0 := bA.frozen 0
  have f1 := bA.frozen 1
  have hl : s.kept.length ≤ 4096 := by have := G.sp2; have := S.kept; omega
  have HB2 := Lib.hid hb2
  have HQ2 := Lib.hid Q2
  have HG := Lib.hid G
  have HS := Lib.hid S
  have HC := Lib.hid hc2
  have HW2 := Lib.hid hW2
  clear Q Q2 G S hc hc2 hW2 hb2 bA bB
  go_enter Tryd.func56, Tryd.ntmps56
  go_wp2_with (first
    | (go_at_call 51; (rw [← HW2.out]); refine (ok_any HG.out HS.out HQ2.out.x).mono ?_; rintro e w' ⟨rfl, rfl⟩)
    | (go_at_call 62; refine (keptC_any HQ2.out.e c HC.out).mono ?_; rintro e w' ⟨rfl, rfl⟩))
  refine bodyPost_ret (v := .tuple #[.agg #[.int .i64 0, .int .i64 0], .int .i64 2]) (by simp [results, Tryd.results56, go_sem, *]) rfl ⟨rfl, ?_⟩
  exact (HB2.out.setCell (Nat.le_refl _) _).setCell (Nat.le_refl _) _

set_option maxRecDepth 100000 in
set_option maxHeartbeats 1000000 in
theorem kept_lo (G : UnGood U) (S : StGood U s) (E : EngX layP F w0 M0 w p U s) (r : Int) (h0 : r < 0) :
    Calls Tryd.prog 32 #[.pointer (some ⟨p, 0, none⟩), .int .i64 r] w fun e w' => e = .returned (.tuple #[.agg #[.int .i64 0, .int .i64 0], .int .i64 2]) ∧ Below w.heap.size w w' := by
  obtain ⟨W2, hW2⟩ : ∃ W2, W2 = (w.alloc (.cells #[.pointer (some ⟨p, 0, none⟩)] 47)).alloc (.cells #[.int .i64 0, .int .i64 0] 85) := ⟨_, rfl⟩
  have hb2 : Below w.heap.size w W2 := by rw [hW2]; exact ((Below.refl _ _).alloc (Nat.le_refl _) _).alloc (by simp) _
  have bA : Blk W2 w.heap.size 47 #[.pointer (some ⟨p, 0, none⟩)] := by rw [hW2]; exact (blk_new w rfl _ _).alloc _
  have bB : Blk W2 (w.heap.size + 1) 85 #[.int .i64 0, .int .i64 0] := by rw [hW2]; exact blk_new _ (by simp) _ _
  have hmf : ∀ (fn : Fn) (first cap : Array Value) (w : World), (Instr.makeFunc fn first cap).run Tryd.prog w = .ok (.func fn first cap) w := fun _ _ _ _ => rfl
  have a0 : W2.cell? ⟨w.heap.size, 0, none⟩ = some (.pointer (some ⟨p, 0, none⟩)) := (bA.cell 0).trans rfl
  have kp := keptP_lo G S (E.below hb2) w.heap.size a0 r h0
  have HKP := Lib.hid kp
  have HB2 := Lib.hid hb2
  have HBB := Lib.hid bB
  have HW2 := Lib.hid hW2
  have lB := bB.lt
  clear G S E kp hb2 bB bA hW2
  go_enter Tryd.func32, Tryd.ntmps32
  go_wp2_with (go_at_call 56; (rw [← HW2.out]); refine (HKP.out).mono ?_; rintro e w2 ⟨rfl, hb⟩; have hbk := HBB.out.fr (Fr.of_below (M := fun _ => False) hb) not_false; have z0 : w2.cell? ⟨w.heap.size + 1, 0, none⟩ = some (.int .i64 0) := (hbk.cell 0).trans rfl; have z1 : w2.cell? ⟨w.heap.size + 1, 1, none⟩ = some (.int .i64 0) := (hbk.cell 1).trans rfl; have q0 := hbk.frozen 0; have q1 := hbk.frozen 1; have HB := Lib.hid hb; clear hb hbk)
  refine bodyPost_ret (v := .tuple #[.agg #[.int .i64 0, .int .i64 0], .int .i64 2]) (by simp [results, Tryd.results32, go_sem, *]) rfl ⟨rfl, ?_⟩
  exact ((HB2.out.trans (HB.out.mono HB2.out.size)).setCell (by simp) _).setCell (by simp) _

set_option maxRecDepth 100000 in
set_option maxHeartbeats 1000000 in
theorem keptP_hi (G : UnGood U) (S : StGood U s) (E : EngX layP F w0 M0 w p U s) (c : Nat) (hc : w.cell? ⟨c, 0, none⟩ = some (.pointer (some ⟨p, 0, none⟩))) (r : Int) (h0 : 0 ≤ r) (h1 : (s.kept.length : Int) ≤ r) :
    Calls Tryd.prog 56 #[.pointer (some ⟨p, 0, none⟩), .int .i64 r, .func (.func 62) #[] #[.pointer (some ⟨c, 0, none⟩)]] w fun e w' => e = .returned (.tuple #[.agg #[.int .i64 0, .int .i64 0], .int .i64 2]) ∧ Below w.heap.size w w' := by
  obtain ⟨L, Q⟩ := E
  obtain ⟨W2, hW2⟩ : ∃ W2, W2 = (w.alloc (.cells #[.int .i64 0, .int .i64 0] 85)).alloc (.cells #[.int .i64 0, .int .i64 0] 85) := ⟨_, rfl⟩
  have hb2 : Below w.heap.size w W2 := by rw [hW2]; exact ((Below.refl _ _).alloc (Nat.le_refl _) _).alloc (by simp) _
  have bA : Blk W2 w.heap.size 85 #[.int .i64 0, .int .i64 0] := by rw [hW2]; exact (blk_new w rfl _ _).alloc _
  have bB : Blk W2 (w.heap.size + 1) 85 #[.int .i64 0, .int .i64 0] := by rw [hW2]; exact blk_new _ (by simp) _ _
  have Q2 := Q.below hb2
  have hc2 := (hb2.cell (p := ⟨c, 0, none⟩) (lt_cell hc)).trans hc
  have a0 : W2.cell? ⟨w.heap.size, 0, none⟩ = some (.int .i64 0) := (bA.cell 0).trans rfl
  have a1 : W2.cell? ⟨w.heap.size, 1, none⟩ = some (.int .i64 0) := (bA.cell 1).trans rfl
  have n0 : W2.cell? ⟨w.heap.size + 1, 0, none⟩ = some (.int .i64 0) := (bB.cell 0).trans rfl
  have n1 : W2.cell? ⟨w.heap.size + 1, 1, none⟩ = some (.int .i64 0) := (bB.cell 1).trans rfl
  have f0 := bA.frozen 0
  have f1 := bA.frozen 1
  have hl : s.kept.length ≤ 4096 := by have := G.sp2; have := S.kept; omega
  have HB2 := Lib.hid hb2
  have HQ2 := Lib.hid Q2
  have HG := Lib.hid G
  have HS := Lib.hid S
  have HC := Lib.hid hc2
  have HW2 := Lib.hid hW2
  clear Q Q2 G S hc hc2 hW2 hb2 bA bB
  go_enter Tryd.func56, Tryd.ntmps56
  go_wp2_with (first
    | (go_at_call 51; (rw [← HW2.out]); refine (ok_any HG.out HS.out HQ2.out.x).mono ?_; rintro e w' ⟨rfl, rfl⟩)
    | (go_at_call 62; refine (keptC_any HQ2.out.e c HC.out).mono ?_; rintro e w' ⟨rfl, rfl⟩))
  refine bodyPost_ret (v := .tuple #[.agg #[.int .i64 0, .int .i64 0], .int .i64 2]) (by simp [results, Tryd.results56, go_sem, *]) rfl ⟨rfl, ?_⟩
  exact (HB2.out.setCell (Nat.le_refl _) _).setCell (Nat.le_refl _) _

set_option maxRecDepth 100000 in
set_option maxHeartbeats 1000000 in
theorem kept_hi (G : UnGood U) (S : StGood U s) (E : EngX layP F w0 M0 w p U s) (r : Int) (h0 : 0 ≤ r) (h1 : (s.kept.length : Int) ≤ r) :
    Calls Tryd.prog 32 #[.pointer (some ⟨p, 0, none⟩), .int .i64 r] w fun e w' => e = .returned (.tuple #[.agg #[.int .i64 0, .int .i64 0], .int .i64 2]) ∧ Below w.heap.size w w' := by
  obtain ⟨W2, hW2⟩ : ∃ W2, W2 = (w.alloc (.cells #[.pointer (some ⟨p, 0, none⟩)] 47)).alloc (.cells #[.int .i64 0, .int .i64 0] 85) := ⟨_, rfl⟩
  have hb2 : Below w.heap.size w W2 := by rw [hW2]; exact ((Below.refl _ _).alloc (Nat.le_refl _) _).alloc (by simp) _
  have bA : Blk W2 w.heap.size 47 #[.pointer (some ⟨p, 0, none⟩)] := by rw [hW2]; exact (blk_new w rfl _ _).alloc _
  have bB : Blk W2 (w.heap.size + 1) 85 #[.int .i64 0, .int .i64 0] := by rw [hW2]; exact blk_new _ (by simp) _ _
  have hmf : ∀ (fn : Fn) (first cap : Array Value) (w : World), (Instr.makeFunc fn first cap).run Tryd.prog w = .ok (.func fn first cap) w := fun _ _ _ _ => rfl
  have a0 : W2.cell? ⟨w.heap.size, 0, none⟩ = some (.pointer (some ⟨p, 0, none⟩)) := (bA.cell 0).trans rfl
  have kp := keptP_hi G S (E.below hb2) w.heap.size a0 r h0 h1
  have HKP := Lib.hid kp
  have HB2 := Lib.hid hb2
  have HBB := Lib.hid bB
  have HW2 := Lib.hid hW2
  have lB := bB.lt
  clear G S E kp hb2 bB bA hW2
  go_enter Tryd.func32, Tryd.ntmps32
  go_wp2_with (go_at_call 56; (rw [← HW2.out]); refine (HKP.out).mono ?_; rintro e w2 ⟨rfl, hb⟩; have hbk := HBB.out.fr (Fr.of_below (M := fun _ => False) hb) not_false; have z0 : w2.cell? ⟨w.heap.size + 1, 0, none⟩ = some (.int .i64 0) := (hbk.cell 0).trans rfl; have z1 : w2.cell? ⟨w.heap.size + 1, 1, none⟩ = some (.int .i64 0) := (hbk.cell 1).trans rfl; have q0 := hbk.frozen 0; have q1 := hbk.frozen 1; have HB := Lib.hid hb; clear hb hbk)
  refine bodyPost_ret (v := .tuple #[.agg #[.int .i64 0, .int .i64 0], .int .i64 2]) (by simp [results, Tryd.results32, go_sem, *]) rfl ⟨rfl, ?_⟩
  exact ((HB2.out.trans (HB.out.mono HB2.out.size)).setCell (by simp) _).setCell (by simp) _
end Go.Proofs.YtfkjkdoloamakaaDoor
