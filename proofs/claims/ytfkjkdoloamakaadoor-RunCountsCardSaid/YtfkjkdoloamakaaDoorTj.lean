/- last of the specification's Engine: the state is St.leave. -/
import Derived.Test.YtfkjkdoloamakaaDoorTi
import Derived.Test.YtfkjkdoloamakaaDoorTb
import Derived.Deep.CutBlock
import Derived.Deep.DeepCutAuto
namespace Go.Proofs.YtfkjkdoloamakaaDoor
open Go.RowKit
set_option linter.unusedVariables false
set_option linter.unusedSimpArgs false
variable {F : Nat → Prop} {w0 w : World} {M0 : Nat → Prop} {p : Nat} {U : UnS} {s : St}

theorem EngQ.cntToR {L : EngL} (Q : EngQ layR F w0 M0 w p U s L) (x : Int) (hx : s.seen.modify s.bl (fun y => (y.1, wrap64 (x + 1), y.2.2)) = s.seen.modify s.bl (fun y => (y.1, wrap64 (y.2.1 + 1), y.2.2))) : EngQ layR F w0 M0 (w.setCell ⟨L.gs, s.bl * 3 + 1, none⟩ (.int .i64 (wrap64 (x + 1)))) p U { s with seen := s.seen.modify s.bl (fun y => (y.1, wrap64 (y.2.1 + 1), y.2.2)) } L :=
  Q.newSeen okR _ _ _ (by simp) (by rw [cntC_set1, hx])
theorem EngQ.cntElseR {L : EngL} (Q : EngQ layR F w0 M0 w p U s L) (x : Int) (hx : s.seen.modify s.bl (fun y => (y.1, y.2.1, wrap64 (x + 1))) = s.seen.modify s.bl (fun y => (y.1, y.2.1, wrap64 (y.2.2 + 1)))) : EngQ layR F w0 M0 (w.setCell ⟨L.gs, s.bl * 3 + 2, none⟩ (.int .i64 (wrap64 (x + 1)))) p U { s with seen := s.seen.modify s.bl (fun y => (y.1, y.2.1, wrap64 (y.2.2 + 1))) } L :=
  Q.newSeen okR _ _ _ (by simp) (by rw [cntC_set2, hx])

set_option maxRecDepth 100000 in
set_option maxHeartbeats 2000000 in
theorem rlast_jump (G : UnGood U) (S : StGood U s) (E : EngX layR F w0 M0 w p U s) (a t l : Int) (ht0 : 0 ≤ t) (ht1 : t < s.seen.length) :
    Calls Tryd.prog 55 #[.pointer (some ⟨p, 0, none⟩), .agg #[.int .i64 1, .int .i64 a, .int .i64 t, .int .i64 l]] w fun e w' => e = .returned (.tuple #[]) ∧ EngX layR F w0 M0 w' p U ((({ s with seen := s.seen.modify s.bl (fun y => (y.1, wrap64 (y.2.1 + 1), y.2.2)) } : St).enter t.toNat)) := by
  obtain ⟨L, Q⟩ := E
  have hbs : s.bl < s.seen.length := by rw [S.seen]; exact S.bl
  have hmb : s.seen.length ≤ 2000 := by rw [S.seen]; exact G.mb
  have hrl : s.regs.length ≤ 4096 := by have := G.r2; have := S.regs; omega
  have KA : Hid (∀ W, Calls Tryd.prog 49 #[.int .i64 1] W fun x w' => x = .returned (.bool false) ∧ W = w') := Lib.hid fun W => rEndA_any 1 W
  obtain ⟨W0, hW0⟩ : ∃ W0, W0 = (w.alloc (.cells #[.int .i64 1, .int .i64 a, .int .i64 t, .int .i64 l] 71)).alloc (.cells #[.int .i64 0, .int .i64 0] 85) := ⟨_, rfl⟩
  have hb0 : Below w.heap.size w W0 := by rw [hW0]; exact ((Below.refl _ _).alloc (Nat.le_refl _) _).alloc (by simp) _
  have hB1 : Blk W0 w.heap.size 71 #[.int .i64 1, .int .i64 a, .int .i64 t, .int .i64 l] := by rw [hW0]; exact (blk_new w rfl _ _).alloc _
  have hB2 : Blk W0 (w.heap.size + 1) 85 #[.int .i64 0, .int .i64 0] := by rw [hW0]; exact blk_new _ (by simp) _ _
  have HQ := Lib.hid Q
  have HB0 := Lib.hid hb0
  have HW0 := Lib.hid hW0
  have HB1 := Lib.hid hB1
  have HB2 := Lib.hid hB2
  have HS := Lib.hid S
  have HG := Lib.hid G
  have lp : p < w.heap.size := Q.e.blk.lt
  have np1 : p ≠ w.heap.size := by omega
  have np2 : p ≠ w.heap.size + 1 := by omega
  have Q1 := Q.below hb0
  clear Q S G hB1 hB2 hW0 hb0
  go_enter Tryd.func55, Tryd.ntmps55
  go_upto_if 7 with (go_at_call 49; (with_reducible refine (KA.out _).mono ?_); rintro x w3 ⟨rfl, rfl⟩)
  rw [← HW0.out]
  have e0 : W0.cell? ⟨w.heap.size, 0, none⟩ = some (.int .i64 1) := (HB1.out.cell 0).trans rfl
  have e1 : W0.cell? ⟨w.heap.size, 1, none⟩ = some (.int .i64 a) := (HB1.out.cell 1).trans rfl
  have e2 : W0.cell? ⟨w.heap.size, 2, none⟩ = some (.int .i64 t) := (HB1.out.cell 2).trans rfl
  have e3 : W0.cell? ⟨w.heap.size, 3, none⟩ = some (.int .i64 l) := (HB1.out.cell 3).trans rfl
  have z0 : W0.cell? ⟨w.heap.size + 1, 0, none⟩ = some (.int .i64 0) := (HB2.out.cell 0).trans rfl
  have z1 : W0.cell? ⟨w.heap.size + 1, 1, none⟩ = some (.int .i64 0) := (HB2.out.cell 1).trans rfl
  have f0 := HB2.out.frozen 0
  have f1 := HB2.out.frozen 1
  have Q2 := Q1
  have c9 := S9 Q2.e
  have c16 := S16 Q2.e
  obtain ⟨x, hx, hxe⟩ := seen1 Q2.e hbs
  have fs := Q2.e.seen.frozen (s.bl * 3 + 1)
  have HXE := Lib.hid hxe
  have nsp1 : L.gs ≠ w.heap.size := by have := HQ.out.e.seen.lt; omega
  have nsp2 : L.gs ≠ w.heap.size + 1 := by have := HQ.out.e.seen.lt; omega
  clear hxe
  have HQ2 := Lib.hid Q2
  clear Q2
  clear Q1
  go_wp2
  go_region
  go_wp2_with (go_at_call 53; refine (renter_any ((HQ2.out.drewN 1).cntToR x HXE.out).x t ht0 (by simpa using ht1) HS.out.ways (by simpa using hmb)).mono ?_; rintro e w3 ⟨rfl, E3⟩)
  first | go_end0 | refine bodyPost_ret (results_none rfl _ _ _) rfl ?_
  exact ⟨rfl, E3⟩

set_option maxRecDepth 100000 in
set_option maxHeartbeats 2000000 in
theorem rlast_bad (G : UnGood U) (S : StGood U s) (E : EngX layR F w0 M0 w p U s) (a t l : Int) (ha0 : 0 ≤ a) (ha1 : a < s.regs.length) (x0 x1 : Int) (hx0 : x0 = (s.reg a).1) (hx1 : x1 = (s.reg a).2) (k : Int) (hk1 : k ≠ 1) (hb : ¬ x1 = 0) :
    Calls Tryd.prog 55 #[.pointer (some ⟨p, 0, none⟩), .agg #[.int .i64 k, .int .i64 a, .int .i64 t, .int .i64 l]] w fun e w' => e = .returned (.tuple #[]) ∧ EngX layR F w0 M0 w' p U (s.trap U x1) := by
  obtain ⟨L, Q⟩ := E
  have hbs : s.bl < s.seen.length := by rw [S.seen]; exact S.bl
  have hmb : s.seen.length ≤ 2000 := by rw [S.seen]; exact G.mb
  have hrl : s.regs.length ≤ 4096 := by have := G.r2; have := S.regs; omega
  have hkA : decide (k ≠ 1) = true := by simp [hk1]
  have HX0 := Lib.hid hx0
  have HX1 := Lib.hid hx1
  clear hx0 hx1
  have KA : Hid (∀ W, Calls Tryd.prog 49 #[.int .i64 k] W fun x w' => x = .returned (.bool true) ∧ W = w') := Lib.hid fun W => by have h := rEndA_any k W; rw [hkA] at h; exact h
  obtain ⟨W0, hW0⟩ : ∃ W0, W0 = (w.alloc (.cells #[.int .i64 k, .int .i64 a, .int .i64 t, .int .i64 l] 71)).alloc (.cells #[.int .i64 0, .int .i64 0] 85) := ⟨_, rfl⟩
  have hb0 : Below w.heap.size w W0 := by rw [hW0]; exact ((Below.refl _ _).alloc (Nat.le_refl _) _).alloc (by simp) _
  have hB1 : Blk W0 w.heap.size 71 #[.int .i64 k, .int .i64 a, .int .i64 t, .int .i64 l] := by rw [hW0]; exact (blk_new w rfl _ _).alloc _
  have hB2 : Blk W0 (w.heap.size + 1) 85 #[.int .i64 0, .int .i64 0] := by rw [hW0]; exact blk_new _ (by simp) _ _
  have HQ := Lib.hid Q
  have HB0 := Lib.hid hb0
  have HW0 := Lib.hid hW0
  have HB1 := Lib.hid hB1
  have HB2 := Lib.hid hB2
  have HS := Lib.hid S
  have HG := Lib.hid G
  have lp : p < w.heap.size := Q.e.blk.lt
  have np1 : p ≠ w.heap.size := by omega
  have np2 : p ≠ w.heap.size + 1 := by omega
  have Q1 := Q.below hb0
  clear Q S G hB1 hB2 hW0 hb0
  go_enter Tryd.func55, Tryd.ntmps55
  go_upto_if 7 with (go_at_call 49; (with_reducible refine (KA.out _).mono ?_); rintro x w3 ⟨rfl, rfl⟩)
  rw [← HW0.out]
  have e0 : W0.cell? ⟨w.heap.size, 0, none⟩ = some (.int .i64 k) := (HB1.out.cell 0).trans rfl
  have e1 : W0.cell? ⟨w.heap.size, 1, none⟩ = some (.int .i64 a) := (HB1.out.cell 1).trans rfl
  have e2 : W0.cell? ⟨w.heap.size, 2, none⟩ = some (.int .i64 t) := (HB1.out.cell 2).trans rfl
  have e3 : W0.cell? ⟨w.heap.size, 3, none⟩ = some (.int .i64 l) := (HB1.out.cell 3).trans rfl
  have z0 : W0.cell? ⟨w.heap.size + 1, 0, none⟩ = some (.int .i64 0) := (HB2.out.cell 0).trans rfl
  have z1 : W0.cell? ⟨w.heap.size + 1, 1, none⟩ = some (.int .i64 0) := (HB2.out.cell 1).trans rfl
  have f0 := HB2.out.frozen 0
  have f1 := HB2.out.frozen 1
  have c6 := S6 Q1.e
  have r0 := reg0 Q1.e ha0 ha1
  have r1 := reg1 Q1.e ha0 ha1
  rw [← HX0.out] at r0
  rw [← HX1.out] at r1
  clear Q1
  go_cut [4] from 5 to 97 (fun v4 wx => v4 = .pointer (some ⟨w.heap.size + 1, 0, none⟩) ∧ Below w.heap.size W0 wx ∧ Blk wx w.heap.size 71 #[.int .i64 k, .int .i64 a, .int .i64 t, .int .i64 l] ∧ Blk wx (w.heap.size + 1) 85 #[.int .i64 x0, .int .i64 x1])
  case first => as_aux_lemma =>
    go_wp2
    go_region
    go_wp2
    go_meet
    refine ⟨rfl, ?_, (HB1.out.far (p := ⟨w.heap.size + 1, 0, none⟩) (by simp) _).far (p := ⟨w.heap.size + 1, 1, none⟩) (by simp) _, (HB2.out.set_ 0 (.int .i64 x0)).set_ 1 (.int .i64 x1)⟩
    repeat' (first | (with_reducible exact Below.refl _ _) | (with_reducible refine drewN_below ?_ _) | (with_reducible refine Below.drew ?_) | (with_reducible refine Below.alloc ?_ ?_ _) | (with_reducible refine Below.setCell ?_ ?_ _) | (simp only; omega) | go_size)
  case rest =>
    obtain ⟨rfl, hbc, hB1, hB2⟩ := hcut
    clear e0 e1 e2 e3 z0 z1 f0 f1 c6 r0 r1
    have e0 : wc.cell? ⟨w.heap.size, 0, none⟩ = some (.int .i64 k) := (hB1.cell 0).trans rfl
    have e1 : wc.cell? ⟨w.heap.size, 1, none⟩ = some (.int .i64 a) := (hB1.cell 1).trans rfl
    have e2 : wc.cell? ⟨w.heap.size, 2, none⟩ = some (.int .i64 t) := (hB1.cell 2).trans rfl
    have e3 : wc.cell? ⟨w.heap.size, 3, none⟩ = some (.int .i64 l) := (hB1.cell 3).trans rfl
    have z0 : wc.cell? ⟨w.heap.size + 1, 0, none⟩ = some (.int .i64 x0) := (hB2.cell 0).trans rfl
    have z1 : wc.cell? ⟨w.heap.size + 1, 1, none⟩ = some (.int .i64 x1) := (hB2.cell 1).trans rfl
    have Q2 := HQ.out.below (HB0.out.trans hbc)
    have HQ2 := Lib.hid Q2
    clear Q2
    go_wp2_with (go_at_call 80; refine (rtrap_any HG.out HS.out HQ2.out.x _).mono ?_; rintro e w3 ⟨rfl, E3⟩)
    first | go_end0 | refine bodyPost_ret (results_none rfl _ _ _) rfl ?_
    exact ⟨rfl, E3⟩

set_option maxRecDepth 100000 in
set_option maxHeartbeats 2000000 in
theorem rlast_throw (G : UnGood U) (S : StGood U s) (E : EngX layR F w0 M0 w p U s) (a t l : Int) (ha0 : 0 ≤ a) (ha1 : a < s.regs.length) (x0 x1 : Int) (hx0 : x0 = (s.reg a).1) (hx1 : x1 = (s.reg a).2) (hb : x1 = 0) :
    Calls Tryd.prog 55 #[.pointer (some ⟨p, 0, none⟩), .agg #[.int .i64 4, .int .i64 a, .int .i64 t, .int .i64 l]] w fun e w' => e = .returned (.tuple #[]) ∧ EngX layR F w0 M0 w' p U (s.trap U x0) := by
  obtain ⟨L, Q⟩ := E
  have hbs : s.bl < s.seen.length := by rw [S.seen]; exact S.bl
  have hmb : s.seen.length ≤ 2000 := by rw [S.seen]; exact G.mb
  have hrl : s.regs.length ≤ 4096 := by have := G.r2; have := S.regs; omega
  have hkA : decide ((4 : Int) ≠ 1) = true := by decide
  have HX0 := Lib.hid hx0
  have HX1 := Lib.hid hx1
  clear hx0 hx1
  subst hb
  have KA : Hid (∀ W, Calls Tryd.prog 49 #[.int .i64 4] W fun x w' => x = .returned (.bool true) ∧ W = w') := Lib.hid fun W => by have h := rEndA_any 4 W; rw [hkA] at h; exact h
  obtain ⟨W0, hW0⟩ : ∃ W0, W0 = (w.alloc (.cells #[.int .i64 4, .int .i64 a, .int .i64 t, .int .i64 l] 71)).alloc (.cells #[.int .i64 0, .int .i64 0] 85) := ⟨_, rfl⟩
  have hb0 : Below w.heap.size w W0 := by rw [hW0]; exact ((Below.refl _ _).alloc (Nat.le_refl _) _).alloc (by simp) _
  have hB1 : Blk W0 w.heap.size 71 #[.int .i64 4, .int .i64 a, .int .i64 t, .int .i64 l] := by rw [hW0]; exact (blk_new w rfl _ _).alloc _
  have hB2 : Blk W0 (w.heap.size + 1) 85 #[.int .i64 0, .int .i64 0] := by rw [hW0]; exact blk_new _ (by simp) _ _
  have HQ := Lib.hid Q
  have HB0 := Lib.hid hb0
  have HW0 := Lib.hid hW0
  have HB1 := Lib.hid hB1
  have HB2 := Lib.hid hB2
  have HS := Lib.hid S
  have HG := Lib.hid G
  have lp : p < w.heap.size := Q.e.blk.lt
  have np1 : p ≠ w.heap.size := by omega
  have np2 : p ≠ w.heap.size + 1 := by omega
  have Q1 := Q.below hb0
  clear Q S G hB1 hB2 hW0 hb0
  go_enter Tryd.func55, Tryd.ntmps55
  go_upto_if 7 with (go_at_call 49; (with_reducible refine (KA.out _).mono ?_); rintro x w3 ⟨rfl, rfl⟩)
  rw [← HW0.out]
  have e0 : W0.cell? ⟨w.heap.size, 0, none⟩ = some (.int .i64 4) := (HB1.out.cell 0).trans rfl
  have e1 : W0.cell? ⟨w.heap.size, 1, none⟩ = some (.int .i64 a) := (HB1.out.cell 1).trans rfl
  have e2 : W0.cell? ⟨w.heap.size, 2, none⟩ = some (.int .i64 t) := (HB1.out.cell 2).trans rfl
  have e3 : W0.cell? ⟨w.heap.size, 3, none⟩ = some (.int .i64 l) := (HB1.out.cell 3).trans rfl
  have z0 : W0.cell? ⟨w.heap.size + 1, 0, none⟩ = some (.int .i64 0) := (HB2.out.cell 0).trans rfl
  have z1 : W0.cell? ⟨w.heap.size + 1, 1, none⟩ = some (.int .i64 0) := (HB2.out.cell 1).trans rfl
  have f0 := HB2.out.frozen 0
  have f1 := HB2.out.frozen 1
  have c6 := S6 Q1.e
  have r0 := reg0 Q1.e ha0 ha1
  have r1 := reg1 Q1.e ha0 ha1
  rw [← HX0.out] at r0
  rw [← HX1.out] at r1
  clear Q1
  go_cut [4] from 5 to 97 (fun v4 wx => v4 = .pointer (some ⟨w.heap.size + 1, 0, none⟩) ∧ Below w.heap.size W0 wx ∧ Blk wx w.heap.size 71 #[.int .i64 4, .int .i64 a, .int .i64 t, .int .i64 l] ∧ Blk wx (w.heap.size + 1) 85 #[.int .i64 x0, .int .i64 0])
  case first => as_aux_lemma =>
    go_wp2
    go_region
    go_wp2
    go_meet
    refine ⟨rfl, ?_, (HB1.out.far (p := ⟨w.heap.size + 1, 0, none⟩) (by simp) _).far (p := ⟨w.heap.size + 1, 1, none⟩) (by simp) _, (HB2.out.set_ 0 (.int .i64 x0)).set_ 1 (.int .i64 0)⟩
    repeat' (first | (with_reducible exact Below.refl _ _) | (with_reducible refine drewN_below ?_ _) | (with_reducible refine Below.drew ?_) | (with_reducible refine Below.alloc ?_ ?_ _) | (with_reducible refine Below.setCell ?_ ?_ _) | (simp only; omega) | go_size)
  case rest =>
    obtain ⟨rfl, hbc, hB1, hB2⟩ := hcut
    clear e0 e1 e2 e3 z0 z1 f0 f1 c6 r0 r1
    have e0 : wc.cell? ⟨w.heap.size, 0, none⟩ = some (.int .i64 4) := (hB1.cell 0).trans rfl
    have e1 : wc.cell? ⟨w.heap.size, 1, none⟩ = some (.int .i64 a) := (hB1.cell 1).trans rfl
    have e2 : wc.cell? ⟨w.heap.size, 2, none⟩ = some (.int .i64 t) := (hB1.cell 2).trans rfl
    have e3 : wc.cell? ⟨w.heap.size, 3, none⟩ = some (.int .i64 l) := (hB1.cell 3).trans rfl
    have z0 : wc.cell? ⟨w.heap.size + 1, 0, none⟩ = some (.int .i64 x0) := (hB2.cell 0).trans rfl
    have z1 : wc.cell? ⟨w.heap.size + 1, 1, none⟩ = some (.int .i64 0) := (hB2.cell 1).trans rfl
    have Q2 := HQ.out.below (HB0.out.trans hbc)
    have HQ2 := Lib.hid Q2
    clear Q2
    go_wp2_with (go_at_call 80; refine (rtrap_any HG.out HS.out HQ2.out.x _).mono ?_; rintro e w3 ⟨rfl, E3⟩)
    first | go_end0 | refine bodyPost_ret (results_none rfl _ _ _) rfl ?_
    exact ⟨rfl, E3⟩

set_option maxRecDepth 100000 in
set_option maxHeartbeats 2000000 in
theorem rlast_return (G : UnGood U) (S : StGood U s) (E : EngX layR F w0 M0 w p U s) (a t l : Int) (ha0 : 0 ≤ a) (ha1 : a < s.regs.length) (x0 x1 : Int) (hx0 : x0 = (s.reg a).1) (hx1 : x1 = (s.reg a).2) (hb : x1 = 0) :
    Calls Tryd.prog 55 #[.pointer (some ⟨p, 0, none⟩), .agg #[.int .i64 3, .int .i64 a, .int .i64 t, .int .i64 l]] w fun e w' => e = .returned (.tuple #[]) ∧ EngX layR F w0 M0 w' p U ({ s with kind := 1, val := x0 }) := by
  obtain ⟨L, Q⟩ := E
  have hbs : s.bl < s.seen.length := by rw [S.seen]; exact S.bl
  have hmb : s.seen.length ≤ 2000 := by rw [S.seen]; exact G.mb
  have hrl : s.regs.length ≤ 4096 := by have := G.r2; have := S.regs; omega
  have hkA : decide ((3 : Int) ≠ 1) = true := by decide
  have HX0 := Lib.hid hx0
  have HX1 := Lib.hid hx1
  clear hx0 hx1
  subst hb
  have KA : Hid (∀ W, Calls Tryd.prog 49 #[.int .i64 3] W fun x w' => x = .returned (.bool true) ∧ W = w') := Lib.hid fun W => by have h := rEndA_any 3 W; rw [hkA] at h; exact h
  obtain ⟨W0, hW0⟩ : ∃ W0, W0 = (w.alloc (.cells #[.int .i64 3, .int .i64 a, .int .i64 t, .int .i64 l] 71)).alloc (.cells #[.int .i64 0, .int .i64 0] 85) := ⟨_, rfl⟩
  have hb0 : Below w.heap.size w W0 := by rw [hW0]; exact ((Below.refl _ _).alloc (Nat.le_refl _) _).alloc (by simp) _
  have hB1 : Blk W0 w.heap.size 71 #[.int .i64 3, .int .i64 a, .int .i64 t, .int .i64 l] := by rw [hW0]; exact (blk_new w rfl _ _).alloc _
  have hB2 : Blk W0 (w.heap.size + 1) 85 #[.int .i64 0, .int .i64 0] := by rw [hW0]; exact blk_new _ (by simp) _ _
  have HQ := Lib.hid Q
  have HB0 := Lib.hid hb0
  have HW0 := Lib.hid hW0
  have HB1 := Lib.hid hB1
  have HB2 := Lib.hid hB2
  have HS := Lib.hid S
  have HG := Lib.hid G
  have lp : p < w.heap.size := Q.e.blk.lt
  have np1 : p ≠ w.heap.size := by omega
  have np2 : p ≠ w.heap.size + 1 := by omega
  have Q1 := Q.below hb0
  clear Q S G hB1 hB2 hW0 hb0
  go_enter Tryd.func55, Tryd.ntmps55
  go_upto_if 7 with (go_at_call 49; (with_reducible refine (KA.out _).mono ?_); rintro x w3 ⟨rfl, rfl⟩)
  rw [← HW0.out]
  have e0 : W0.cell? ⟨w.heap.size, 0, none⟩ = some (.int .i64 3) := (HB1.out.cell 0).trans rfl
  have e1 : W0.cell? ⟨w.heap.size, 1, none⟩ = some (.int .i64 a) := (HB1.out.cell 1).trans rfl
  have e2 : W0.cell? ⟨w.heap.size, 2, none⟩ = some (.int .i64 t) := (HB1.out.cell 2).trans rfl
  have e3 : W0.cell? ⟨w.heap.size, 3, none⟩ = some (.int .i64 l) := (HB1.out.cell 3).trans rfl
  have z0 : W0.cell? ⟨w.heap.size + 1, 0, none⟩ = some (.int .i64 0) := (HB2.out.cell 0).trans rfl
  have z1 : W0.cell? ⟨w.heap.size + 1, 1, none⟩ = some (.int .i64 0) := (HB2.out.cell 1).trans rfl
  have f0 := HB2.out.frozen 0
  have f1 := HB2.out.frozen 1
  have c6 := S6 Q1.e
  have r0 := reg0 Q1.e ha0 ha1
  have r1 := reg1 Q1.e ha0 ha1
  rw [← HX0.out] at r0
  rw [← HX1.out] at r1
  clear Q1
  go_cut [4] from 5 to 97 (fun v4 wx => v4 = .pointer (some ⟨w.heap.size + 1, 0, none⟩) ∧ Below w.heap.size W0 wx ∧ Blk wx w.heap.size 71 #[.int .i64 3, .int .i64 a, .int .i64 t, .int .i64 l] ∧ Blk wx (w.heap.size + 1) 85 #[.int .i64 x0, .int .i64 0])
  case first => as_aux_lemma =>
    go_wp2
    go_region
    go_wp2
    go_meet
    refine ⟨rfl, ?_, (HB1.out.far (p := ⟨w.heap.size + 1, 0, none⟩) (by simp) _).far (p := ⟨w.heap.size + 1, 1, none⟩) (by simp) _, (HB2.out.set_ 0 (.int .i64 x0)).set_ 1 (.int .i64 0)⟩
    repeat' (first | (with_reducible exact Below.refl _ _) | (with_reducible refine drewN_below ?_ _) | (with_reducible refine Below.drew ?_) | (with_reducible refine Below.alloc ?_ ?_ _) | (with_reducible refine Below.setCell ?_ ?_ _) | (simp only; omega) | go_size)
  case rest =>
    obtain ⟨rfl, hbc, hB1, hB2⟩ := hcut
    clear e0 e1 e2 e3 z0 z1 f0 f1 c6 r0 r1
    have e0 : wc.cell? ⟨w.heap.size, 0, none⟩ = some (.int .i64 3) := (hB1.cell 0).trans rfl
    have e1 : wc.cell? ⟨w.heap.size, 1, none⟩ = some (.int .i64 a) := (hB1.cell 1).trans rfl
    have e2 : wc.cell? ⟨w.heap.size, 2, none⟩ = some (.int .i64 t) := (hB1.cell 2).trans rfl
    have e3 : wc.cell? ⟨w.heap.size, 3, none⟩ = some (.int .i64 l) := (hB1.cell 3).trans rfl
    have z0 : wc.cell? ⟨w.heap.size + 1, 0, none⟩ = some (.int .i64 x0) := (hB2.cell 0).trans rfl
    have z1 : wc.cell? ⟨w.heap.size + 1, 1, none⟩ = some (.int .i64 0) := (hB2.cell 1).trans rfl
    have Q2 := HQ.out.below (HB0.out.trans hbc)
    have HQ2 := Lib.hid Q2
    clear Q2
    go_wp2_with (go_at_call 85; refine (rendE_any HQ2.out.x 1 x0 (.inl rfl)).mono ?_; rintro e w3 ⟨rfl, E3⟩)
    first | go_end0 | refine bodyPost_ret (results_none rfl _ _ _) rfl ?_
    exact ⟨rfl, E3⟩

set_option maxRecDepth 100000 in
set_option maxHeartbeats 2000000 in
theorem rlast_to (G : UnGood U) (S : StGood U s) (E : EngX layR F w0 M0 w p U s) (a t l : Int) (ha0 : 0 ≤ a) (ha1 : a < s.regs.length) (x0 x1 : Int) (hx0 : x0 = (s.reg a).1) (hx1 : x1 = (s.reg a).2) (hb : x1 = 0) (hz : ¬ x0 = 0) (ht0 : 0 ≤ t) (ht1 : t < s.seen.length) :
    Calls Tryd.prog 55 #[.pointer (some ⟨p, 0, none⟩), .agg #[.int .i64 2, .int .i64 a, .int .i64 t, .int .i64 l]] w fun e w' => e = .returned (.tuple #[]) ∧ EngX layR F w0 M0 w' p U ((({ s with seen := s.seen.modify s.bl (fun y => (y.1, wrap64 (y.2.1 + 1), y.2.2)) } : St).enter t.toNat)) := by
  obtain ⟨L, Q⟩ := E
  have hbs : s.bl < s.seen.length := by rw [S.seen]; exact S.bl
  have hmb : s.seen.length ≤ 2000 := by rw [S.seen]; exact G.mb
  have hrl : s.regs.length ≤ 4096 := by have := G.r2; have := S.regs; omega
  have hkA : decide ((2 : Int) ≠ 1) = true := by decide
  have HX0 := Lib.hid hx0
  have HX1 := Lib.hid hx1
  clear hx0 hx1
  subst hb
  have KA : Hid (∀ W, Calls Tryd.prog 49 #[.int .i64 2] W fun x w' => x = .returned (.bool true) ∧ W = w') := Lib.hid fun W => by have h := rEndA_any 2 W; rw [hkA] at h; exact h
  obtain ⟨W0, hW0⟩ : ∃ W0, W0 = (w.alloc (.cells #[.int .i64 2, .int .i64 a, .int .i64 t, .int .i64 l] 71)).alloc (.cells #[.int .i64 0, .int .i64 0] 85) := ⟨_, rfl⟩
  have hb0 : Below w.heap.size w W0 := by rw [hW0]; exact ((Below.refl _ _).alloc (Nat.le_refl _) _).alloc (by simp) _
  have hB1 : Blk W0 w.heap.size 71 #[.int .i64 2, .int .i64 a, .int .i64 t, .int .i64 l] := by rw [hW0]; exact (blk_new w rfl _ _).alloc _
  have hB2 : Blk W0 (w.heap.size + 1) 85 #[.int .i64 0, .int .i64 0] := by rw [hW0]; exact blk_new _ (by simp) _ _
  have HQ := Lib.hid Q
  have HB0 := Lib.hid hb0
  have HW0 := Lib.hid hW0
  have HB1 := Lib.hid hB1
  have HB2 := Lib.hid hB2
  have HS := Lib.hid S
  have HG := Lib.hid G
  have lp : p < w.heap.size := Q.e.blk.lt
  have np1 : p ≠ w.heap.size := by omega
  have np2 : p ≠ w.heap.size + 1 := by omega
  have Q1 := Q.below hb0
  clear Q S G hB1 hB2 hW0 hb0
  go_enter Tryd.func55, Tryd.ntmps55
  go_upto_if 7 with (go_at_call 49; (with_reducible refine (KA.out _).mono ?_); rintro x w3 ⟨rfl, rfl⟩)
  rw [← HW0.out]
  have e0 : W0.cell? ⟨w.heap.size, 0, none⟩ = some (.int .i64 2) := (HB1.out.cell 0).trans rfl
  have e1 : W0.cell? ⟨w.heap.size, 1, none⟩ = some (.int .i64 a) := (HB1.out.cell 1).trans rfl
  have e2 : W0.cell? ⟨w.heap.size, 2, none⟩ = some (.int .i64 t) := (HB1.out.cell 2).trans rfl
  have e3 : W0.cell? ⟨w.heap.size, 3, none⟩ = some (.int .i64 l) := (HB1.out.cell 3).trans rfl
  have z0 : W0.cell? ⟨w.heap.size + 1, 0, none⟩ = some (.int .i64 0) := (HB2.out.cell 0).trans rfl
  have z1 : W0.cell? ⟨w.heap.size + 1, 1, none⟩ = some (.int .i64 0) := (HB2.out.cell 1).trans rfl
  have f0 := HB2.out.frozen 0
  have f1 := HB2.out.frozen 1
  have c6 := S6 Q1.e
  have r0 := reg0 Q1.e ha0 ha1
  have r1 := reg1 Q1.e ha0 ha1
  rw [← HX0.out] at r0
  rw [← HX1.out] at r1
  clear Q1
  go_cut [4] from 5 to 97 (fun v4 wx => v4 = .pointer (some ⟨w.heap.size + 1, 0, none⟩) ∧ Below w.heap.size W0 wx ∧ Blk wx w.heap.size 71 #[.int .i64 2, .int .i64 a, .int .i64 t, .int .i64 l] ∧ Blk wx (w.heap.size + 1) 85 #[.int .i64 x0, .int .i64 0])
  case first => as_aux_lemma =>
    go_wp2
    go_region
    go_wp2
    go_meet
    refine ⟨rfl, ?_, (HB1.out.far (p := ⟨w.heap.size + 1, 0, none⟩) (by simp) _).far (p := ⟨w.heap.size + 1, 1, none⟩) (by simp) _, (HB2.out.set_ 0 (.int .i64 x0)).set_ 1 (.int .i64 0)⟩
    repeat' (first | (with_reducible exact Below.refl _ _) | (with_reducible refine drewN_below ?_ _) | (with_reducible refine Below.drew ?_) | (with_reducible refine Below.alloc ?_ ?_ _) | (with_reducible refine Below.setCell ?_ ?_ _) | (simp only; omega) | go_size)
  case rest =>
    obtain ⟨rfl, hbc, hB1, hB2⟩ := hcut
    clear e0 e1 e2 e3 z0 z1 f0 f1 c6 r0 r1
    have e0 : wc.cell? ⟨w.heap.size, 0, none⟩ = some (.int .i64 2) := (hB1.cell 0).trans rfl
    have e1 : wc.cell? ⟨w.heap.size, 1, none⟩ = some (.int .i64 a) := (hB1.cell 1).trans rfl
    have e2 : wc.cell? ⟨w.heap.size, 2, none⟩ = some (.int .i64 t) := (hB1.cell 2).trans rfl
    have e3 : wc.cell? ⟨w.heap.size, 3, none⟩ = some (.int .i64 l) := (hB1.cell 3).trans rfl
    have z0 : wc.cell? ⟨w.heap.size + 1, 0, none⟩ = some (.int .i64 x0) := (hB2.cell 0).trans rfl
    have z1 : wc.cell? ⟨w.heap.size + 1, 1, none⟩ = some (.int .i64 0) := (hB2.cell 1).trans rfl
    have Q2 := HQ.out.below (HB0.out.trans hbc)
    have c9 := S9 Q2.e
    have c16 := S16 Q2.e
    obtain ⟨x, hx, hxe⟩ := seen1 Q2.e hbs
    have fs := Q2.e.seen.frozen (s.bl * 3 + 1)
    have HXE := Lib.hid hxe
    have nsp1 : L.gs ≠ w.heap.size := by have := HQ.out.e.seen.lt; omega
    have nsp2 : L.gs ≠ w.heap.size + 1 := by have := HQ.out.e.seen.lt; omega
    clear hxe
    have HQ2 := Lib.hid Q2
    clear Q2
    go_wp2
    go_region
    go_wp2_with (go_at_call 53; refine (renter_any ((HQ2.out.drewN 1).cntToR x HXE.out).x t ht0 (by simpa using ht1) HS.out.ways (by simpa using hmb)).mono ?_; rintro e w3 ⟨rfl, E3⟩)
    first | go_end0 | refine bodyPost_ret (results_none rfl _ _ _) rfl ?_
    exact ⟨rfl, E3⟩

set_option maxRecDepth 100000 in
set_option maxHeartbeats 2000000 in
theorem rlast_else (G : UnGood U) (S : StGood U s) (E : EngX layR F w0 M0 w p U s) (a t l : Int) (ha0 : 0 ≤ a) (ha1 : a < s.regs.length) (x0 x1 : Int) (hx0 : x0 = (s.reg a).1) (hx1 : x1 = (s.reg a).2) (hb : x1 = 0) (hz : x0 = 0) (ht0 : 0 ≤ l) (ht1 : l < s.seen.length) :
    Calls Tryd.prog 55 #[.pointer (some ⟨p, 0, none⟩), .agg #[.int .i64 2, .int .i64 a, .int .i64 t, .int .i64 l]] w fun e w' => e = .returned (.tuple #[]) ∧ EngX layR F w0 M0 w' p U ((({ s with seen := s.seen.modify s.bl (fun y => (y.1, y.2.1, wrap64 (y.2.2 + 1))) } : St).enter l.toNat)) := by
  obtain ⟨L, Q⟩ := E
  have hbs : s.bl < s.seen.length := by rw [S.seen]; exact S.bl
  have hmb : s.seen.length ≤ 2000 := by rw [S.seen]; exact G.mb
  have hrl : s.regs.length ≤ 4096 := by have := G.r2; have := S.regs; omega
  have hkA : decide ((2 : Int) ≠ 1) = true := by decide
  have HX0 := Lib.hid hx0
  have HX1 := Lib.hid hx1
  clear hx0 hx1
  subst hb
  subst hz
  have KA : Hid (∀ W, Calls Tryd.prog 49 #[.int .i64 2] W fun x w' => x = .returned (.bool true) ∧ W = w') := Lib.hid fun W => by have h := rEndA_any 2 W; rw [hkA] at h; exact h
  obtain ⟨W0, hW0⟩ : ∃ W0, W0 = (w.alloc (.cells #[.int .i64 2, .int .i64 a, .int .i64 t, .int .i64 l] 71)).alloc (.cells #[.int .i64 0, .int .i64 0] 85) := ⟨_, rfl⟩
  have hb0 : Below w.heap.size w W0 := by rw [hW0]; exact ((Below.refl _ _).alloc (Nat.le_refl _) _).alloc (by simp) _
  have hB1 : Blk W0 w.heap.size 71 #[.int .i64 2, .int .i64 a, .int .i64 t, .int .i64 l] := by rw [hW0]; exact (blk_new w rfl _ _).alloc _
  have hB2 : Blk W0 (w.heap.size + 1) 85 #[.int .i64 0, .int .i64 0] := by rw [hW0]; exact blk_new _ (by simp) _ _
  have HQ := Lib.hid Q
  have HB0 := Lib.hid hb0
  have HW0 := Lib.hid hW0
  have HB1 := Lib.hid hB1
  have HB2 := Lib.hid hB2
  have HS := Lib.hid S
  have HG := Lib.hid G
  have lp : p < w.heap.size := Q.e.blk.lt
  have np1 : p ≠ w.heap.size := by omega
  have np2 : p ≠ w.heap.size + 1 := by omega
  have Q1 := Q.below hb0
  clear Q S G hB1 hB2 hW0 hb0
  go_enter Tryd.func55, Tryd.ntmps55
  go_upto_if 7 with (go_at_call 49; (with_reducible refine (KA.out _).mono ?_); rintro x w3 ⟨rfl, rfl⟩)
  rw [← HW0.out]
  have e0 : W0.cell? ⟨w.heap.size, 0, none⟩ = some (.int .i64 2) := (HB1.out.cell 0).trans rfl
  have e1 : W0.cell? ⟨w.heap.size, 1, none⟩ = some (.int .i64 a) := (HB1.out.cell 1).trans rfl
  have e2 : W0.cell? ⟨w.heap.size, 2, none⟩ = some (.int .i64 t) := (HB1.out.cell 2).trans rfl
  have e3 : W0.cell? ⟨w.heap.size, 3, none⟩ = some (.int .i64 l) := (HB1.out.cell 3).trans rfl
  have z0 : W0.cell? ⟨w.heap.size + 1, 0, none⟩ = some (.int .i64 0) := (HB2.out.cell 0).trans rfl
  have z1 : W0.cell? ⟨w.heap.size + 1, 1, none⟩ = some (.int .i64 0) := (HB2.out.cell 1).trans rfl
  have f0 := HB2.out.frozen 0
  have f1 := HB2.out.frozen 1
  have c6 := S6 Q1.e
  have r0 := reg0 Q1.e ha0 ha1
  have r1 := reg1 Q1.e ha0 ha1
  rw [← HX0.out] at r0
  rw [← HX1.out] at r1
  clear Q1
  go_cut [4] from 5 to 97 (fun v4 wx => v4 = .pointer (some ⟨w.heap.size + 1, 0, none⟩) ∧ Below w.heap.size W0 wx ∧ Blk wx w.heap.size 71 #[.int .i64 2, .int .i64 a, .int .i64 t, .int .i64 l] ∧ Blk wx (w.heap.size + 1) 85 #[.int .i64 0, .int .i64 0])
  case first => as_aux_lemma =>
    go_wp2
    go_region
    go_wp2
    go_meet
    refine ⟨rfl, ?_, (HB1.out.far (p := ⟨w.heap.size + 1, 0, none⟩) (by simp) _).far (p := ⟨w.heap.size + 1, 1, none⟩) (by simp) _, (HB2.out.set_ 0 (.int .i64 0)).set_ 1 (.int .i64 0)⟩
    repeat' (first | (with_reducible exact Below.refl _ _) | (with_reducible refine drewN_below ?_ _) | (with_reducible refine Below.drew ?_) | (with_reducible refine Below.alloc ?_ ?_ _) | (with_reducible refine Below.setCell ?_ ?_ _) | (simp only; omega) | go_size)
  case rest =>
    obtain ⟨rfl, hbc, hB1, hB2⟩ := hcut
    clear e0 e1 e2 e3 z0 z1 f0 f1 c6 r0 r1
    have e0 : wc.cell? ⟨w.heap.size, 0, none⟩ = some (.int .i64 2) := (hB1.cell 0).trans rfl
    have e1 : wc.cell? ⟨w.heap.size, 1, none⟩ = some (.int .i64 a) := (hB1.cell 1).trans rfl
    have e2 : wc.cell? ⟨w.heap.size, 2, none⟩ = some (.int .i64 t) := (hB1.cell 2).trans rfl
    have e3 : wc.cell? ⟨w.heap.size, 3, none⟩ = some (.int .i64 l) := (hB1.cell 3).trans rfl
    have z0 : wc.cell? ⟨w.heap.size + 1, 0, none⟩ = some (.int .i64 0) := (hB2.cell 0).trans rfl
    have z1 : wc.cell? ⟨w.heap.size + 1, 1, none⟩ = some (.int .i64 0) := (hB2.cell 1).trans rfl
    have Q2 := HQ.out.below (HB0.out.trans hbc)
    have c9 := S9 Q2.e
    have c16 := S16 Q2.e
    obtain ⟨x, hx, hxe⟩ := seen2 Q2.e hbs
    have fs := Q2.e.seen.frozen (s.bl * 3 + 2)
    have HXE := Lib.hid hxe
    have nsp1 : L.gs ≠ w.heap.size := by have := HQ.out.e.seen.lt; omega
    have nsp2 : L.gs ≠ w.heap.size + 1 := by have := HQ.out.e.seen.lt; omega
    clear hxe
    have HQ2 := Lib.hid Q2
    clear Q2
    go_wp2
    go_region
    go_wp2_with (go_at_call 53; refine (renter_any ((HQ2.out.drewN 1).cntElseR x HXE.out).x l ht0 (by simpa using ht1) HS.out.ways (by simpa using hmb)).mono ?_; rintro e w3 ⟨rfl, E3⟩)
    first | go_end0 | refine bodyPost_ret (results_none rfl _ _ _) rfl ?_
    exact ⟨rfl, E3⟩

theorem rlast_any (G : UnGood U) (S : StGood U s) (E : EngX layR F w0 M0 w p U s) (x : EdS) (hx : EdGood U x) :
    Calls Tryd.prog 55 #[.pointer (some ⟨p, 0, none⟩), edV x] w fun e w' => e = .returned (.tuple #[]) ∧ EngX layR F w0 M0 w' p U (s.leave U x) := by
  obtain ⟨k, a, t, l⟩ := x
  have ha := hx.a
  have ha0 : 0 ≤ a := ha.1
  have ha1 : a < s.regs.length := by rw [S.regs]; exact ha.2
  have hk1 : 1 ≤ k := hx.k1
  have hk2 : k ≤ 4 := hx.k2
  have sl : ∀ n, inR n U.blocks.length → 0 ≤ n ∧ n < s.seen.length := fun n h => ⟨h.1, by rw [S.seen]; exact h.2⟩
  unfold edV
  simp only
  by_cases h1 : k = 1
  · subst h1
    have ht := sl t (hx.t (.inl rfl))
    have e : s.leave U ⟨1, a, t, l⟩ = ({ s with seen := s.seen.modify s.bl (fun y => (y.1, wrap64 (y.2.1 + 1), y.2.2)) } : St).enter t.toNat := by simp [St.leave]
    rw [e]
    exact rlast_jump G S E a t l ht.1 ht.2
  by_cases hb : (s.reg a).2 = 0
  · by_cases h4 : k = 4
    · subst h4
      have e : s.leave U ⟨4, a, t, l⟩ = s.trap U (s.reg a).1 := by simp [St.leave, hb]
      rw [e]
      exact rlast_throw G S E a t l ha0 ha1 _ _ rfl rfl hb
    by_cases h3 : k = 3
    · subst h3
      have e : s.leave U ⟨3, a, t, l⟩ = { s with kind := 1, val := (s.reg a).1 } := by simp [St.leave, hb]
      rw [e]
      exact rlast_return G S E a t l ha0 ha1 _ _ rfl rfl hb
    obtain rfl : k = 2 := by omega
    by_cases hz : (s.reg a).1 = 0
    · have hl := sl l (hx.l rfl)
      have e : s.leave U ⟨2, a, t, l⟩ = ({ s with seen := s.seen.modify s.bl (fun y => (y.1, y.2.1, wrap64 (y.2.2 + 1))) } : St).enter l.toNat := by simp [St.leave, hb, hz]
      rw [e]
      exact rlast_else G S E a t l ha0 ha1 _ _ rfl rfl hb hz hl.1 hl.2
    · have ht := sl t (hx.t (.inr rfl))
      have e : s.leave U ⟨2, a, t, l⟩ = ({ s with seen := s.seen.modify s.bl (fun y => (y.1, wrap64 (y.2.1 + 1), y.2.2)) } : St).enter t.toNat := by simp [St.leave, hb, hz]
      rw [e]
      exact rlast_to G S E a t l ha0 ha1 _ _ rfl rfl hb hz ht.1 ht.2
  · have e : s.leave U ⟨k, a, t, l⟩ = s.trap U (s.reg a).2 := by simp [St.leave, hb, h1]
    rw [e]
    exact rlast_bad G S E a t l ha0 ha1 _ _ rfl rfl k h1 hb
end Go.Proofs.YtfkjkdoloamakaaDoor
