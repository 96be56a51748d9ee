/- end of the specification, walked. -/
import Derived.Test.YtfkjkdoloamakaaDoorTa
namespace Go.Proofs.YtfkjkdoloamakaaDoor
open Go.RowKit
set_option linter.unusedVariables false
set_option linter.unusedSimpArgs false
variable {w : World} {F : Nat → Prop} {U : UnS} {Av Ab : Option Addr} {cv cb : Nat}

theorem rEndA_any (k : Int) (w : World) : Calls Tryd.prog 49 #[.int .i64 k] w fun x w' => x = .returned (.bool (decide (k ≠ 1))) ∧ w = w' := by
  by_cases h1 : k = 1
  · subst h1; go_enter Tryd.func49, Tryd.ntmps49; go_wp2; go_ret; exact ⟨rfl, rfl⟩
  rw [decide_eq_true h1]
  have e1 : (k != 1) = true := by simpa using h1
  clear h1
  go_enter Tryd.func49, Tryd.ntmps49; go_wp2; go_ret; exact ⟨rfl, rfl⟩
theorem rEndTo_any (k : Int) (w : World) : Calls Tryd.prog 28 #[.int .i64 k] w fun x w' => x = .returned (.bool (decide (k = 1 ∨ k = 2))) ∧ w = w' := by
  by_cases h1 : k = 1
  · subst h1; go_enter Tryd.func28, Tryd.ntmps28; go_wp2; go_ret; exact ⟨rfl, rfl⟩
  by_cases h2 : k = 2
  · subst h2; go_enter Tryd.func28, Tryd.ntmps28; go_wp2; go_ret; exact ⟨rfl, rfl⟩
  rw [decide_eq_false (show ¬ (k = 1 ∨ k = 2) by omega)]
  have e1 : (k == 1) = false := by simpa using h1
  have e2 : (k == 2) = false := by simpa using h2
  clear h1 h2
  go_enter Tryd.func28, Tryd.ntmps28; go_wp2; go_ret; exact ⟨rfl, rfl⟩
theorem rEndElse_any (k : Int) (w : World) : Calls Tryd.prog 29 #[.int .i64 k] w fun x w' => x = .returned (.bool (decide (k = 2))) ∧ w = w' := by
  by_cases h1 : k = 2
  · subst h1; go_enter Tryd.func29, Tryd.ntmps29; go_wp2; go_ret; exact ⟨rfl, rfl⟩
  rw [decide_eq_false h1]
  have e1 : (k == 2) = false := by simpa using h1
  clear h1
  go_enter Tryd.func29, Tryd.ntmps29; go_wp2; go_ret; exact ⟨rfl, rfl⟩

set_option maxRecDepth 100000 in
theorem rend1_t (U : UnS) (a t l : Int) (h_tt : ¬ inR t U.blocks.length) :
    Calls Tryd.prog 90 #[unV U Av cv Ab cb, edV ⟨1, a, t, l⟩] w fun x w' => x = .returned (.int .i64 (5)) ∧ Below w.heap.size w w' := by
  obtain ⟨W0, hW0⟩ : ∃ W0, W0 = (w.alloc (.cells (unC U Av cv Ab cb) 25)).alloc (.cells #[.int .i64 1, .int .i64 a, .int .i64 t, .int .i64 l] 71) := ⟨_, rfl⟩
  have hb0 : Below w.heap.size w W0 := by rw [hW0]; exact ((Below.refl _ _).alloc (Nat.le_refl _) _).alloc (by simp) _
  have hq : Blk W0 w.heap.size 25 (unC U Av cv Ab cb) := by rw [hW0]; exact (blk_new w rfl _ _).alloc _
  have he : Blk W0 (w.heap.size + 1) 71 #[.int .i64 1, .int .i64 a, .int .i64 t, .int .i64 l] := by rw [hW0]; exact blk_new _ (by simp) _ _
  have q0 : W0.cell? ⟨w.heap.size, 0, none⟩ = some (.slice Av U.sizes.length cv) := (hq.cell 0).trans rfl
  have q1 : W0.cell? ⟨w.heap.size, 1, none⟩ = some (.int .i64 U.params) := (hq.cell 1).trans rfl
  have q2 : W0.cell? ⟨w.heap.size, 2, none⟩ = some (.int .i64 U.regs) := (hq.cell 2).trans rfl
  have q3 : W0.cell? ⟨w.heap.size, 3, none⟩ = some (.int .i64 U.code) := (hq.cell 3).trans rfl
  have q4 : W0.cell? ⟨w.heap.size, 4, none⟩ = some (.int .i64 U.spill) := (hq.cell 4).trans rfl
  have q5 : W0.cell? ⟨w.heap.size, 5, none⟩ = some (.slice Ab U.blocks.length cb) := (hq.cell 5).trans rfl
  have e0 : W0.cell? ⟨w.heap.size + 1, 0, none⟩ = some (.int .i64 1) := (he.cell 0).trans rfl
  have e1 : W0.cell? ⟨w.heap.size + 1, 1, none⟩ = some (.int .i64 a) := (he.cell 1).trans rfl
  have e2 : W0.cell? ⟨w.heap.size + 1, 2, none⟩ = some (.int .i64 t) := (he.cell 2).trans rfl
  have e3 : W0.cell? ⟨w.heap.size + 1, 3, none⟩ = some (.int .i64 l) := (he.cell 3).trans rfl
  have tt : Hid (∀ W, Below W0.heap.size W0 W → Calls Tryd.prog 109 #[unV U Av cv Ab cb, .int .i64 t] W fun x w' => x = .returned (.bool false) ∧ Below W0.heap.size W0 w') := Lib.hid (fun W hb => by
    have h := rThere_any (U := U) (Av := Av) (cv := cv) (Ab := Ab) (cb := cb) t W
    rw [decide_eq_false h_tt] at h
    exact h.mono fun x w' ⟨h1, h2⟩ => ⟨h1, hb.trans (h2.mono hb.size)⟩)
  have KA : Hid (∀ W, Calls Tryd.prog 49 #[.int .i64 1] W fun x w' => x = .returned (.bool false) ∧ W = w') := Lib.hid fun W => rEndA_any 1 W
  have KT : Hid (∀ W, Calls Tryd.prog 28 #[.int .i64 1] W fun x w' => x = .returned (.bool true) ∧ W = w') := Lib.hid fun W => rEndTo_any 1 W
  have KL : Hid (∀ W, Calls Tryd.prog 29 #[.int .i64 1] W fun x w' => x = .returned (.bool false) ∧ W = w') := Lib.hid fun W => rEndElse_any 1 W
  clear h_tt
  have HW0 := Lib.hid hW0
  have H0 := Lib.hid hb0
  have HQ := Lib.hid hq
  have HEB := Lib.hid he
  clear hW0 hb0 hq he
  unfold unV unC edV at *
  go_enter Tryd.func90, Tryd.ntmps90
  go_upto_region 1 with fail
  rw [← HW0.out]
  go_wp2_with (first
    | (go_at_call 49; (with_reducible refine (KA.out _).mono ?_); rintro x w3 ⟨rfl, rfl⟩)
    | (go_at_call 28; (with_reducible refine (KT.out _).mono ?_); rintro x w3 ⟨rfl, rfl⟩)
    | (go_at_call 29; (with_reducible refine (KL.out _).mono ?_); rintro x w3 ⟨rfl, rfl⟩)
    | (go_at_call 109; (with_reducible refine (tt.out _ ?f).mono ?_); (case f => first | exact HBC.out | exact Below.refl _ _); rintro x w3 ⟨rfl, hb⟩; have q0 : w3.cell? ⟨w.heap.size, 0, none⟩ = some (.slice Av U.sizes.length cv) := ((HQ.out.below hb).cell 0).trans rfl; have q1 : w3.cell? ⟨w.heap.size, 1, none⟩ = some (.int .i64 U.params) := ((HQ.out.below hb).cell 1).trans rfl; have q2 : w3.cell? ⟨w.heap.size, 2, none⟩ = some (.int .i64 U.regs) := ((HQ.out.below hb).cell 2).trans rfl; have q3 : w3.cell? ⟨w.heap.size, 3, none⟩ = some (.int .i64 U.code) := ((HQ.out.below hb).cell 3).trans rfl; have q4 : w3.cell? ⟨w.heap.size, 4, none⟩ = some (.int .i64 U.spill) := ((HQ.out.below hb).cell 4).trans rfl; have q5 : w3.cell? ⟨w.heap.size, 5, none⟩ = some (.slice Ab U.blocks.length cb) := ((HQ.out.below hb).cell 5).trans rfl; have e0 : w3.cell? ⟨w.heap.size + 1, 0, none⟩ = some (.int .i64 1) := ((HEB.out.below hb).cell 0).trans rfl; have e1 : w3.cell? ⟨w.heap.size + 1, 1, none⟩ = some (.int .i64 a) := ((HEB.out.below hb).cell 1).trans rfl; have e2 : w3.cell? ⟨w.heap.size + 1, 2, none⟩ = some (.int .i64 t) := ((HEB.out.below hb).cell 2).trans rfl; have e3 : w3.cell? ⟨w.heap.size + 1, 3, none⟩ = some (.int .i64 l) := ((HEB.out.below hb).cell 3).trans rfl; have HBC := Lib.hid hb; clear hb))
  go_ret
  exact ⟨rfl, H0.out.trans ((HBC.out : Below W0.heap.size W0 _).mono H0.out.size)⟩

set_option maxRecDepth 100000 in
theorem rend1_a (U : UnS) (a t l : Int) (h_tt : inR t U.blocks.length) (ha : a ≠ 0) :
    Calls Tryd.prog 90 #[unV U Av cv Ab cb, edV ⟨1, a, t, l⟩] w fun x w' => x = .returned (.int .i64 (4)) ∧ Below w.heap.size w w' := by
  obtain ⟨W0, hW0⟩ : ∃ W0, W0 = (w.alloc (.cells (unC U Av cv Ab cb) 25)).alloc (.cells #[.int .i64 1, .int .i64 a, .int .i64 t, .int .i64 l] 71) := ⟨_, rfl⟩
  have hb0 : Below w.heap.size w W0 := by rw [hW0]; exact ((Below.refl _ _).alloc (Nat.le_refl _) _).alloc (by simp) _
  have hq : Blk W0 w.heap.size 25 (unC U Av cv Ab cb) := by rw [hW0]; exact (blk_new w rfl _ _).alloc _
  have he : Blk W0 (w.heap.size + 1) 71 #[.int .i64 1, .int .i64 a, .int .i64 t, .int .i64 l] := by rw [hW0]; exact blk_new _ (by simp) _ _
  have q0 : W0.cell? ⟨w.heap.size, 0, none⟩ = some (.slice Av U.sizes.length cv) := (hq.cell 0).trans rfl
  have q1 : W0.cell? ⟨w.heap.size, 1, none⟩ = some (.int .i64 U.params) := (hq.cell 1).trans rfl
  have q2 : W0.cell? ⟨w.heap.size, 2, none⟩ = some (.int .i64 U.regs) := (hq.cell 2).trans rfl
  have q3 : W0.cell? ⟨w.heap.size, 3, none⟩ = some (.int .i64 U.code) := (hq.cell 3).trans rfl
  have q4 : W0.cell? ⟨w.heap.size, 4, none⟩ = some (.int .i64 U.spill) := (hq.cell 4).trans rfl
  have q5 : W0.cell? ⟨w.heap.size, 5, none⟩ = some (.slice Ab U.blocks.length cb) := (hq.cell 5).trans rfl
  have e0 : W0.cell? ⟨w.heap.size + 1, 0, none⟩ = some (.int .i64 1) := (he.cell 0).trans rfl
  have e1 : W0.cell? ⟨w.heap.size + 1, 1, none⟩ = some (.int .i64 a) := (he.cell 1).trans rfl
  have e2 : W0.cell? ⟨w.heap.size + 1, 2, none⟩ = some (.int .i64 t) := (he.cell 2).trans rfl
  have e3 : W0.cell? ⟨w.heap.size + 1, 3, none⟩ = some (.int .i64 l) := (he.cell 3).trans rfl
  have tt : Hid (∀ W, Below W0.heap.size W0 W → Calls Tryd.prog 109 #[unV U Av cv Ab cb, .int .i64 t] W fun x w' => x = .returned (.bool true) ∧ Below W0.heap.size W0 w') := Lib.hid (fun W hb => by
    have h := rThere_any (U := U) (Av := Av) (cv := cv) (Ab := Ab) (cb := cb) t W
    rw [decide_eq_true h_tt] at h
    exact h.mono fun x w' ⟨h1, h2⟩ => ⟨h1, hb.trans (h2.mono hb.size)⟩)
  have KA : Hid (∀ W, Calls Tryd.prog 49 #[.int .i64 1] W fun x w' => x = .returned (.bool false) ∧ W = w') := Lib.hid fun W => rEndA_any 1 W
  have KT : Hid (∀ W, Calls Tryd.prog 28 #[.int .i64 1] W fun x w' => x = .returned (.bool true) ∧ W = w') := Lib.hid fun W => rEndTo_any 1 W
  have KL : Hid (∀ W, Calls Tryd.prog 29 #[.int .i64 1] W fun x w' => x = .returned (.bool false) ∧ W = w') := Lib.hid fun W => rEndElse_any 1 W
  clear h_tt
  have bha : (a != 0) = true := by simpa using ha
  clear ha
  have HW0 := Lib.hid hW0
  have H0 := Lib.hid hb0
  have HQ := Lib.hid hq
  have HEB := Lib.hid he
  clear hW0 hb0 hq he
  unfold unV unC edV at *
  go_enter Tryd.func90, Tryd.ntmps90
  go_upto_region 1 with fail
  rw [← HW0.out]
  go_wp2_with (first
    | (go_at_call 49; (with_reducible refine (KA.out _).mono ?_); rintro x w3 ⟨rfl, rfl⟩)
    | (go_at_call 28; (with_reducible refine (KT.out _).mono ?_); rintro x w3 ⟨rfl, rfl⟩)
    | (go_at_call 29; (with_reducible refine (KL.out _).mono ?_); rintro x w3 ⟨rfl, rfl⟩)
    | (go_at_call 109; (with_reducible refine (tt.out _ ?f).mono ?_); (case f => first | exact HBC.out | exact Below.refl _ _); rintro x w3 ⟨rfl, hb⟩; have q0 : w3.cell? ⟨w.heap.size, 0, none⟩ = some (.slice Av U.sizes.length cv) := ((HQ.out.below hb).cell 0).trans rfl; have q1 : w3.cell? ⟨w.heap.size, 1, none⟩ = some (.int .i64 U.params) := ((HQ.out.below hb).cell 1).trans rfl; have q2 : w3.cell? ⟨w.heap.size, 2, none⟩ = some (.int .i64 U.regs) := ((HQ.out.below hb).cell 2).trans rfl; have q3 : w3.cell? ⟨w.heap.size, 3, none⟩ = some (.int .i64 U.code) := ((HQ.out.below hb).cell 3).trans rfl; have q4 : w3.cell? ⟨w.heap.size, 4, none⟩ = some (.int .i64 U.spill) := ((HQ.out.below hb).cell 4).trans rfl; have q5 : w3.cell? ⟨w.heap.size, 5, none⟩ = some (.slice Ab U.blocks.length cb) := ((HQ.out.below hb).cell 5).trans rfl; have e0 : w3.cell? ⟨w.heap.size + 1, 0, none⟩ = some (.int .i64 1) := ((HEB.out.below hb).cell 0).trans rfl; have e1 : w3.cell? ⟨w.heap.size + 1, 1, none⟩ = some (.int .i64 a) := ((HEB.out.below hb).cell 1).trans rfl; have e2 : w3.cell? ⟨w.heap.size + 1, 2, none⟩ = some (.int .i64 t) := ((HEB.out.below hb).cell 2).trans rfl; have e3 : w3.cell? ⟨w.heap.size + 1, 3, none⟩ = some (.int .i64 l) := ((HEB.out.below hb).cell 3).trans rfl; have HBC := Lib.hid hb; clear hb))
  go_ret
  exact ⟨rfl, H0.out.trans ((HBC.out : Below W0.heap.size W0 _).mono H0.out.size)⟩

set_option maxRecDepth 100000 in
theorem rend1_l (U : UnS) (a t l : Int) (h_tt : inR t U.blocks.length) (ha : a = 0) (hl : l ≠ 0) :
    Calls Tryd.prog 90 #[unV U Av cv Ab cb, edV ⟨1, a, t, l⟩] w fun x w' => x = .returned (.int .i64 (4)) ∧ Below w.heap.size w w' := by
  obtain ⟨W0, hW0⟩ : ∃ W0, W0 = (w.alloc (.cells (unC U Av cv Ab cb) 25)).alloc (.cells #[.int .i64 1, .int .i64 a, .int .i64 t, .int .i64 l] 71) := ⟨_, rfl⟩
  have hb0 : Below w.heap.size w W0 := by rw [hW0]; exact ((Below.refl _ _).alloc (Nat.le_refl _) _).alloc (by simp) _
  have hq : Blk W0 w.heap.size 25 (unC U Av cv Ab cb) := by rw [hW0]; exact (blk_new w rfl _ _).alloc _
  have he : Blk W0 (w.heap.size + 1) 71 #[.int .i64 1, .int .i64 a, .int .i64 t, .int .i64 l] := by rw [hW0]; exact blk_new _ (by simp) _ _
  have q0 : W0.cell? ⟨w.heap.size, 0, none⟩ = some (.slice Av U.sizes.length cv) := (hq.cell 0).trans rfl
  have q1 : W0.cell? ⟨w.heap.size, 1, none⟩ = some (.int .i64 U.params) := (hq.cell 1).trans rfl
  have q2 : W0.cell? ⟨w.heap.size, 2, none⟩ = some (.int .i64 U.regs) := (hq.cell 2).trans rfl
  have q3 : W0.cell? ⟨w.heap.size, 3, none⟩ = some (.int .i64 U.code) := (hq.cell 3).trans rfl
  have q4 : W0.cell? ⟨w.heap.size, 4, none⟩ = some (.int .i64 U.spill) := (hq.cell 4).trans rfl
  have q5 : W0.cell? ⟨w.heap.size, 5, none⟩ = some (.slice Ab U.blocks.length cb) := (hq.cell 5).trans rfl
  have e0 : W0.cell? ⟨w.heap.size + 1, 0, none⟩ = some (.int .i64 1) := (he.cell 0).trans rfl
  have e1 : W0.cell? ⟨w.heap.size + 1, 1, none⟩ = some (.int .i64 a) := (he.cell 1).trans rfl
  have e2 : W0.cell? ⟨w.heap.size + 1, 2, none⟩ = some (.int .i64 t) := (he.cell 2).trans rfl
  have e3 : W0.cell? ⟨w.heap.size + 1, 3, none⟩ = some (.int .i64 l) := (he.cell 3).trans rfl
  have tt : Hid (∀ W, Below W0.heap.size W0 W → Calls Tryd.prog 109 #[unV U Av cv Ab cb, .int .i64 t] W fun x w' => x = .returned (.bool true) ∧ Below W0.heap.size W0 w') := Lib.hid (fun W hb => by
    have h := rThere_any (U := U) (Av := Av) (cv := cv) (Ab := Ab) (cb := cb) t W
    rw [decide_eq_true h_tt] at h
    exact h.mono fun x w' ⟨h1, h2⟩ => ⟨h1, hb.trans (h2.mono hb.size)⟩)
  have KA : Hid (∀ W, Calls Tryd.prog 49 #[.int .i64 1] W fun x w' => x = .returned (.bool false) ∧ W = w') := Lib.hid fun W => rEndA_any 1 W
  have KT : Hid (∀ W, Calls Tryd.prog 28 #[.int .i64 1] W fun x w' => x = .returned (.bool true) ∧ W = w') := Lib.hid fun W => rEndTo_any 1 W
  have KL : Hid (∀ W, Calls Tryd.prog 29 #[.int .i64 1] W fun x w' => x = .returned (.bool false) ∧ W = w') := Lib.hid fun W => rEndElse_any 1 W
  clear h_tt
  have bha : (a != 0) = false := by simp [ha]
  clear ha
  have bhl : (l != 0) = true := by simpa using hl
  clear hl
  have HW0 := Lib.hid hW0
  have H0 := Lib.hid hb0
  have HQ := Lib.hid hq
  have HEB := Lib.hid he
  clear hW0 hb0 hq he
  unfold unV unC edV at *
  go_enter Tryd.func90, Tryd.ntmps90
  go_upto_region 1 with fail
  rw [← HW0.out]
  go_wp2_with (first
    | (go_at_call 49; (with_reducible refine (KA.out _).mono ?_); rintro x w3 ⟨rfl, rfl⟩)
    | (go_at_call 28; (with_reducible refine (KT.out _).mono ?_); rintro x w3 ⟨rfl, rfl⟩)
    | (go_at_call 29; (with_reducible refine (KL.out _).mono ?_); rintro x w3 ⟨rfl, rfl⟩)
    | (go_at_call 109; (with_reducible refine (tt.out _ ?f).mono ?_); (case f => first | exact HBC.out | exact Below.refl _ _); rintro x w3 ⟨rfl, hb⟩; have q0 : w3.cell? ⟨w.heap.size, 0, none⟩ = some (.slice Av U.sizes.length cv) := ((HQ.out.below hb).cell 0).trans rfl; have q1 : w3.cell? ⟨w.heap.size, 1, none⟩ = some (.int .i64 U.params) := ((HQ.out.below hb).cell 1).trans rfl; have q2 : w3.cell? ⟨w.heap.size, 2, none⟩ = some (.int .i64 U.regs) := ((HQ.out.below hb).cell 2).trans rfl; have q3 : w3.cell? ⟨w.heap.size, 3, none⟩ = some (.int .i64 U.code) := ((HQ.out.below hb).cell 3).trans rfl; have q4 : w3.cell? ⟨w.heap.size, 4, none⟩ = some (.int .i64 U.spill) := ((HQ.out.below hb).cell 4).trans rfl; have q5 : w3.cell? ⟨w.heap.size, 5, none⟩ = some (.slice Ab U.blocks.length cb) := ((HQ.out.below hb).cell 5).trans rfl; have e0 : w3.cell? ⟨w.heap.size + 1, 0, none⟩ = some (.int .i64 1) := ((HEB.out.below hb).cell 0).trans rfl; have e1 : w3.cell? ⟨w.heap.size + 1, 1, none⟩ = some (.int .i64 a) := ((HEB.out.below hb).cell 1).trans rfl; have e2 : w3.cell? ⟨w.heap.size + 1, 2, none⟩ = some (.int .i64 t) := ((HEB.out.below hb).cell 2).trans rfl; have e3 : w3.cell? ⟨w.heap.size + 1, 3, none⟩ = some (.int .i64 l) := ((HEB.out.below hb).cell 3).trans rfl; have HBC := Lib.hid hb; clear hb))
  go_ret
  exact ⟨rfl, H0.out.trans ((HBC.out : Below W0.heap.size W0 _).mono H0.out.size)⟩

set_option maxRecDepth 100000 in
theorem rend1_0 (U : UnS) (a t l : Int) (h_tt : inR t U.blocks.length) (ha : a = 0) (hl : l = 0) :
    Calls Tryd.prog 90 #[unV U Av cv Ab cb, edV ⟨1, a, t, l⟩] w fun x w' => x = .returned (.int .i64 (0)) ∧ Below w.heap.size w w' := by
  obtain ⟨W0, hW0⟩ : ∃ W0, W0 = (w.alloc (.cells (unC U Av cv Ab cb) 25)).alloc (.cells #[.int .i64 1, .int .i64 a, .int .i64 t, .int .i64 l] 71) := ⟨_, rfl⟩
  have hb0 : Below w.heap.size w W0 := by rw [hW0]; exact ((Below.refl _ _).alloc (Nat.le_refl _) _).alloc (by simp) _
  have hq : Blk W0 w.heap.size 25 (unC U Av cv Ab cb) := by rw [hW0]; exact (blk_new w rfl _ _).alloc _
  have he : Blk W0 (w.heap.size + 1) 71 #[.int .i64 1, .int .i64 a, .int .i64 t, .int .i64 l] := by rw [hW0]; exact blk_new _ (by simp) _ _
  have q0 : W0.cell? ⟨w.heap.size, 0, none⟩ = some (.slice Av U.sizes.length cv) := (hq.cell 0).trans rfl
  have q1 : W0.cell? ⟨w.heap.size, 1, none⟩ = some (.int .i64 U.params) := (hq.cell 1).trans rfl
  have q2 : W0.cell? ⟨w.heap.size, 2, none⟩ = some (.int .i64 U.regs) := (hq.cell 2).trans rfl
  have q3 : W0.cell? ⟨w.heap.size, 3, none⟩ = some (.int .i64 U.code) := (hq.cell 3).trans rfl
  have q4 : W0.cell? ⟨w.heap.size, 4, none⟩ = some (.int .i64 U.spill) := (hq.cell 4).trans rfl
  have q5 : W0.cell? ⟨w.heap.size, 5, none⟩ = some (.slice Ab U.blocks.length cb) := (hq.cell 5).trans rfl
  have e0 : W0.cell? ⟨w.heap.size + 1, 0, none⟩ = some (.int .i64 1) := (he.cell 0).trans rfl
  have e1 : W0.cell? ⟨w.heap.size + 1, 1, none⟩ = some (.int .i64 a) := (he.cell 1).trans rfl
  have e2 : W0.cell? ⟨w.heap.size + 1, 2, none⟩ = some (.int .i64 t) := (he.cell 2).trans rfl
  have e3 : W0.cell? ⟨w.heap.size + 1, 3, none⟩ = some (.int .i64 l) := (he.cell 3).trans rfl
  have tt : Hid (∀ W, Below W0.heap.size W0 W → Calls Tryd.prog 109 #[unV U Av cv Ab cb, .int .i64 t] W fun x w' => x = .returned (.bool true) ∧ Below W0.heap.size W0 w') := Lib.hid (fun W hb => by
    have h := rThere_any (U := U) (Av := Av) (cv := cv) (Ab := Ab) (cb := cb) t W
    rw [decide_eq_true h_tt] at h
    exact h.mono fun x w' ⟨h1, h2⟩ => ⟨h1, hb.trans (h2.mono hb.size)⟩)
  have KA : Hid (∀ W, Calls Tryd.prog 49 #[.int .i64 1] W fun x w' => x = .returned (.bool false) ∧ W = w') := Lib.hid fun W => rEndA_any 1 W
  have KT : Hid (∀ W, Calls Tryd.prog 28 #[.int .i64 1] W fun x w' => x = .returned (.bool true) ∧ W = w') := Lib.hid fun W => rEndTo_any 1 W
  have KL : Hid (∀ W, Calls Tryd.prog 29 #[.int .i64 1] W fun x w' => x = .returned (.bool false) ∧ W = w') := Lib.hid fun W => rEndElse_any 1 W
  clear h_tt
  have bha : (a != 0) = false := by simp [ha]
  clear ha
  have bhl : (l != 0) = false := by simp [hl]
  clear hl
  have HW0 := Lib.hid hW0
  have H0 := Lib.hid hb0
  have HQ := Lib.hid hq
  have HEB := Lib.hid he
  clear hW0 hb0 hq he
  unfold unV unC edV at *
  go_enter Tryd.func90, Tryd.ntmps90
  go_upto_region 1 with fail
  rw [← HW0.out]
  go_wp2_with (first
    | (go_at_call 49; (with_reducible refine (KA.out _).mono ?_); rintro x w3 ⟨rfl, rfl⟩)
    | (go_at_call 28; (with_reducible refine (KT.out _).mono ?_); rintro x w3 ⟨rfl, rfl⟩)
    | (go_at_call 29; (with_reducible refine (KL.out _).mono ?_); rintro x w3 ⟨rfl, rfl⟩)
    | (go_at_call 109; (with_reducible refine (tt.out _ ?f).mono ?_); (case f => first | exact HBC.out | exact Below.refl _ _); rintro x w3 ⟨rfl, hb⟩; have q0 : w3.cell? ⟨w.heap.size, 0, none⟩ = some (.slice Av U.sizes.length cv) := ((HQ.out.below hb).cell 0).trans rfl; have q1 : w3.cell? ⟨w.heap.size, 1, none⟩ = some (.int .i64 U.params) := ((HQ.out.below hb).cell 1).trans rfl; have q2 : w3.cell? ⟨w.heap.size, 2, none⟩ = some (.int .i64 U.regs) := ((HQ.out.below hb).cell 2).trans rfl; have q3 : w3.cell? ⟨w.heap.size, 3, none⟩ = some (.int .i64 U.code) := ((HQ.out.below hb).cell 3).trans rfl; have q4 : w3.cell? ⟨w.heap.size, 4, none⟩ = some (.int .i64 U.spill) := ((HQ.out.below hb).cell 4).trans rfl; have q5 : w3.cell? ⟨w.heap.size, 5, none⟩ = some (.slice Ab U.blocks.length cb) := ((HQ.out.below hb).cell 5).trans rfl; have e0 : w3.cell? ⟨w.heap.size + 1, 0, none⟩ = some (.int .i64 1) := ((HEB.out.below hb).cell 0).trans rfl; have e1 : w3.cell? ⟨w.heap.size + 1, 1, none⟩ = some (.int .i64 a) := ((HEB.out.below hb).cell 1).trans rfl; have e2 : w3.cell? ⟨w.heap.size + 1, 2, none⟩ = some (.int .i64 t) := ((HEB.out.below hb).cell 2).trans rfl; have e3 : w3.cell? ⟨w.heap.size + 1, 3, none⟩ = some (.int .i64 l) := ((HEB.out.below hb).cell 3).trans rfl; have HBC := Lib.hid hb; clear hb))
  go_ret
  exact ⟨rfl, H0.out.trans ((HBC.out : Below W0.heap.size W0 _).mono H0.out.size)⟩

set_option maxRecDepth 100000 in
theorem rend2_a (U : UnS) (a t l : Int) (h_ra : ¬ inR a U.regs) :
    Calls Tryd.prog 90 #[unV U Av cv Ab cb, edV ⟨2, a, t, l⟩] w fun x w' => x = .returned (.int .i64 (2)) ∧ Below w.heap.size w w' := by
  obtain ⟨W0, hW0⟩ : ∃ W0, W0 = (w.alloc (.cells (unC U Av cv Ab cb) 25)).alloc (.cells #[.int .i64 2, .int .i64 a, .int .i64 t, .int .i64 l] 71) := ⟨_, rfl⟩
  have hb0 : Below w.heap.size w W0 := by rw [hW0]; exact ((Below.refl _ _).alloc (Nat.le_refl _) _).alloc (by simp) _
  have hq : Blk W0 w.heap.size 25 (unC U Av cv Ab cb) := by rw [hW0]; exact (blk_new w rfl _ _).alloc _
  have he : Blk W0 (w.heap.size + 1) 71 #[.int .i64 2, .int .i64 a, .int .i64 t, .int .i64 l] := by rw [hW0]; exact blk_new _ (by simp) _ _
  have q0 : W0.cell? ⟨w.heap.size, 0, none⟩ = some (.slice Av U.sizes.length cv) := (hq.cell 0).trans rfl
  have q1 : W0.cell? ⟨w.heap.size, 1, none⟩ = some (.int .i64 U.params) := (hq.cell 1).trans rfl
  have q2 : W0.cell? ⟨w.heap.size, 2, none⟩ = some (.int .i64 U.regs) := (hq.cell 2).trans rfl
  have q3 : W0.cell? ⟨w.heap.size, 3, none⟩ = some (.int .i64 U.code) := (hq.cell 3).trans rfl
  have q4 : W0.cell? ⟨w.heap.size, 4, none⟩ = some (.int .i64 U.spill) := (hq.cell 4).trans rfl
  have q5 : W0.cell? ⟨w.heap.size, 5, none⟩ = some (.slice Ab U.blocks.length cb) := (hq.cell 5).trans rfl
  have e0 : W0.cell? ⟨w.heap.size + 1, 0, none⟩ = some (.int .i64 2) := (he.cell 0).trans rfl
  have e1 : W0.cell? ⟨w.heap.size + 1, 1, none⟩ = some (.int .i64 a) := (he.cell 1).trans rfl
  have e2 : W0.cell? ⟨w.heap.size + 1, 2, none⟩ = some (.int .i64 t) := (he.cell 2).trans rfl
  have e3 : W0.cell? ⟨w.heap.size + 1, 3, none⟩ = some (.int .i64 l) := (he.cell 3).trans rfl
  have ra : Hid (∀ W, Below W0.heap.size W0 W → Calls Tryd.prog 88 #[unV U Av cv Ab cb, .int .i64 a] W fun x w' => x = .returned (.bool false) ∧ Below W0.heap.size W0 w') := Lib.hid (fun W hb => by
    have h := rReg_any (U := U) (Av := Av) (cv := cv) (Ab := Ab) (cb := cb) a W
    rw [decide_eq_false h_ra] at h
    exact h.mono fun x w' ⟨h1, h2⟩ => ⟨h1, hb.trans (h2.mono hb.size)⟩)
  have KA : Hid (∀ W, Calls Tryd.prog 49 #[.int .i64 2] W fun x w' => x = .returned (.bool true) ∧ W = w') := Lib.hid fun W => rEndA_any 2 W
  have KT : Hid (∀ W, Calls Tryd.prog 28 #[.int .i64 2] W fun x w' => x = .returned (.bool true) ∧ W = w') := Lib.hid fun W => rEndTo_any 2 W
  have KL : Hid (∀ W, Calls Tryd.prog 29 #[.int .i64 2] W fun x w' => x = .returned (.bool true) ∧ W = w') := Lib.hid fun W => rEndElse_any 2 W
  clear h_ra
  have HW0 := Lib.hid hW0
  have H0 := Lib.hid hb0
  have HQ := Lib.hid hq
  have HEB := Lib.hid he
  clear hW0 hb0 hq he
  unfold unV unC edV at *
  go_enter Tryd.func90, Tryd.ntmps90
  go_upto_region 1 with fail
  rw [← HW0.out]
  go_wp2_with (first
    | (go_at_call 49; (with_reducible refine (KA.out _).mono ?_); rintro x w3 ⟨rfl, rfl⟩)
    | (go_at_call 28; (with_reducible refine (KT.out _).mono ?_); rintro x w3 ⟨rfl, rfl⟩)
    | (go_at_call 29; (with_reducible refine (KL.out _).mono ?_); rintro x w3 ⟨rfl, rfl⟩)
    | (go_at_call 88; (with_reducible refine (ra.out _ ?f).mono ?_); (case f => first | exact HBC.out | exact Below.refl _ _); rintro x w3 ⟨rfl, hb⟩; have q0 : w3.cell? ⟨w.heap.size, 0, none⟩ = some (.slice Av U.sizes.length cv) := ((HQ.out.below hb).cell 0).trans rfl; have q1 : w3.cell? ⟨w.heap.size, 1, none⟩ = some (.int .i64 U.params) := ((HQ.out.below hb).cell 1).trans rfl; have q2 : w3.cell? ⟨w.heap.size, 2, none⟩ = some (.int .i64 U.regs) := ((HQ.out.below hb).cell 2).trans rfl; have q3 : w3.cell? ⟨w.heap.size, 3, none⟩ = some (.int .i64 U.code) := ((HQ.out.below hb).cell 3).trans rfl; have q4 : w3.cell? ⟨w.heap.size, 4, none⟩ = some (.int .i64 U.spill) := ((HQ.out.below hb).cell 4).trans rfl; have q5 : w3.cell? ⟨w.heap.size, 5, none⟩ = some (.slice Ab U.blocks.length cb) := ((HQ.out.below hb).cell 5).trans rfl; have e0 : w3.cell? ⟨w.heap.size + 1, 0, none⟩ = some (.int .i64 2) := ((HEB.out.below hb).cell 0).trans rfl; have e1 : w3.cell? ⟨w.heap.size + 1, 1, none⟩ = some (.int .i64 a) := ((HEB.out.below hb).cell 1).trans rfl; have e2 : w3.cell? ⟨w.heap.size + 1, 2, none⟩ = some (.int .i64 t) := ((HEB.out.below hb).cell 2).trans rfl; have e3 : w3.cell? ⟨w.heap.size + 1, 3, none⟩ = some (.int .i64 l) := ((HEB.out.below hb).cell 3).trans rfl; have HBC := Lib.hid hb; clear hb))
  go_ret
  exact ⟨rfl, H0.out.trans ((HBC.out : Below W0.heap.size W0 _).mono H0.out.size)⟩

set_option maxRecDepth 100000 in
theorem rend2_t (U : UnS) (a t l : Int) (h_ra : inR a U.regs) (h_tt : ¬ inR t U.blocks.length) :
    Calls Tryd.prog 90 #[unV U Av cv Ab cb, edV ⟨2, a, t, l⟩] w fun x w' => x = .returned (.int .i64 (5)) ∧ Below w.heap.size w w' := by
  obtain ⟨W0, hW0⟩ : ∃ W0, W0 = (w.alloc (.cells (unC U Av cv Ab cb) 25)).alloc (.cells #[.int .i64 2, .int .i64 a, .int .i64 t, .int .i64 l] 71) := ⟨_, rfl⟩
  have hb0 : Below w.heap.size w W0 := by rw [hW0]; exact ((Below.refl _ _).alloc (Nat.le_refl _) _).alloc (by simp) _
  have hq : Blk W0 w.heap.size 25 (unC U Av cv Ab cb) := by rw [hW0]; exact (blk_new w rfl _ _).alloc _
  have he : Blk W0 (w.heap.size + 1) 71 #[.int .i64 2, .int .i64 a, .int .i64 t, .int .i64 l] := by rw [hW0]; exact blk_new _ (by simp) _ _
  have q0 : W0.cell? ⟨w.heap.size, 0, none⟩ = some (.slice Av U.sizes.length cv) := (hq.cell 0).trans rfl
  have q1 : W0.cell? ⟨w.heap.size, 1, none⟩ = some (.int .i64 U.params) := (hq.cell 1).trans rfl
  have q2 : W0.cell? ⟨w.heap.size, 2, none⟩ = some (.int .i64 U.regs) := (hq.cell 2).trans rfl
  have q3 : W0.cell? ⟨w.heap.size, 3, none⟩ = some (.int .i64 U.code) := (hq.cell 3).trans rfl
  have q4 : W0.cell? ⟨w.heap.size, 4, none⟩ = some (.int .i64 U.spill) := (hq.cell 4).trans rfl
  have q5 : W0.cell? ⟨w.heap.size, 5, none⟩ = some (.slice Ab U.blocks.length cb) := (hq.cell 5).trans rfl
  have e0 : W0.cell? ⟨w.heap.size + 1, 0, none⟩ = some (.int .i64 2) := (he.cell 0).trans rfl
  have e1 : W0.cell? ⟨w.heap.size + 1, 1, none⟩ = some (.int .i64 a) := (he.cell 1).trans rfl
  have e2 : W0.cell? ⟨w.heap.size + 1, 2, none⟩ = some (.int .i64 t) := (he.cell 2).trans rfl
  have e3 : W0.cell? ⟨w.heap.size + 1, 3, none⟩ = some (.int .i64 l) := (he.cell 3).trans rfl
  have ra : Hid (∀ W, Below W0.heap.size W0 W → Calls Tryd.prog 88 #[unV U Av cv Ab cb, .int .i64 a] W fun x w' => x = .returned (.bool true) ∧ Below W0.heap.size W0 w') := Lib.hid (fun W hb => by
    have h := rReg_any (U := U) (Av := Av) (cv := cv) (Ab := Ab) (cb := cb) a W
    rw [decide_eq_true h_ra] at h
    exact h.mono fun x w' ⟨h1, h2⟩ => ⟨h1, hb.trans (h2.mono hb.size)⟩)
  have tt : Hid (∀ W, Below W0.heap.size W0 W → Calls Tryd.prog 109 #[unV U Av cv Ab cb, .int .i64 t] W fun x w' => x = .returned (.bool false) ∧ Below W0.heap.size W0 w') := Lib.hid (fun W hb => by
    have h := rThere_any (U := U) (Av := Av) (cv := cv) (Ab := Ab) (cb := cb) t W
    rw [decide_eq_false h_tt] at h
    exact h.mono fun x w' ⟨h1, h2⟩ => ⟨h1, hb.trans (h2.mono hb.size)⟩)
  have KA : Hid (∀ W, Calls Tryd.prog 49 #[.int .i64 2] W fun x w' => x = .returned (.bool true) ∧ W = w') := Lib.hid fun W => rEndA_any 2 W
  have KT : Hid (∀ W, Calls Tryd.prog 28 #[.int .i64 2] W fun x w' => x = .returned (.bool true) ∧ W = w') := Lib.hid fun W => rEndTo_any 2 W
  have KL : Hid (∀ W, Calls Tryd.prog 29 #[.int .i64 2] W fun x w' => x = .returned (.bool true) ∧ W = w') := Lib.hid fun W => rEndElse_any 2 W
  clear h_ra h_tt
  have HW0 := Lib.hid hW0
  have H0 := Lib.hid hb0
  have HQ := Lib.hid hq
  have HEB := Lib.hid he
  clear hW0 hb0 hq he
  unfold unV unC edV at *
  go_enter Tryd.func90, Tryd.ntmps90
  go_upto_region 1 with fail
  rw [← HW0.out]
  go_wp2_with (first
    | (go_at_call 49; (with_reducible refine (KA.out _).mono ?_); rintro x w3 ⟨rfl, rfl⟩)
    | (go_at_call 28; (with_reducible refine (KT.out _).mono ?_); rintro x w3 ⟨rfl, rfl⟩)
    | (go_at_call 29; (with_reducible refine (KL.out _).mono ?_); rintro x w3 ⟨rfl, rfl⟩)
    | (go_at_call 88; (with_reducible refine (ra.out _ ?f).mono ?_); (case f => first | exact HBC.out | exact Below.refl _ _); rintro x w3 ⟨rfl, hb⟩; have q0 : w3.cell? ⟨w.heap.size, 0, none⟩ = some (.slice Av U.sizes.length cv) := ((HQ.out.below hb).cell 0).trans rfl; have q1 : w3.cell? ⟨w.heap.size, 1, none⟩ = some (.int .i64 U.params) := ((HQ.out.below hb).cell 1).trans rfl; have q2 : w3.cell? ⟨w.heap.size, 2, none⟩ = some (.int .i64 U.regs) := ((HQ.out.below hb).cell 2).trans rfl; have q3 : w3.cell? ⟨w.heap.size, 3, none⟩ = some (.int .i64 U.code) := ((HQ.out.below hb).cell 3).trans rfl; have q4 : w3.cell? ⟨w.heap.size, 4, none⟩ = some (.int .i64 U.spill) := ((HQ.out.below hb).cell 4).trans rfl; have q5 : w3.cell? ⟨w.heap.size, 5, none⟩ = some (.slice Ab U.blocks.length cb) := ((HQ.out.below hb).cell 5).trans rfl; have e0 : w3.cell? ⟨w.heap.size + 1, 0, none⟩ = some (.int .i64 2) := ((HEB.out.below hb).cell 0).trans rfl; have e1 : w3.cell? ⟨w.heap.size + 1, 1, none⟩ = some (.int .i64 a) := ((HEB.out.below hb).cell 1).trans rfl; have e2 : w3.cell? ⟨w.heap.size + 1, 2, none⟩ = some (.int .i64 t) := ((HEB.out.below hb).cell 2).trans rfl; have e3 : w3.cell? ⟨w.heap.size + 1, 3, none⟩ = some (.int .i64 l) := ((HEB.out.below hb).cell 3).trans rfl; have HBC := Lib.hid hb; clear hb)
    | (go_at_call 109; (with_reducible refine (tt.out _ ?f).mono ?_); (case f => first | exact HBC.out | exact Below.refl _ _); rintro x w3 ⟨rfl, hb⟩; have q0 : w3.cell? ⟨w.heap.size, 0, none⟩ = some (.slice Av U.sizes.length cv) := ((HQ.out.below hb).cell 0).trans rfl; have q1 : w3.cell? ⟨w.heap.size, 1, none⟩ = some (.int .i64 U.params) := ((HQ.out.below hb).cell 1).trans rfl; have q2 : w3.cell? ⟨w.heap.size, 2, none⟩ = some (.int .i64 U.regs) := ((HQ.out.below hb).cell 2).trans rfl; have q3 : w3.cell? ⟨w.heap.size, 3, none⟩ = some (.int .i64 U.code) := ((HQ.out.below hb).cell 3).trans rfl; have q4 : w3.cell? ⟨w.heap.size, 4, none⟩ = some (.int .i64 U.spill) := ((HQ.out.below hb).cell 4).trans rfl; have q5 : w3.cell? ⟨w.heap.size, 5, none⟩ = some (.slice Ab U.blocks.length cb) := ((HQ.out.below hb).cell 5).trans rfl; have e0 : w3.cell? ⟨w.heap.size + 1, 0, none⟩ = some (.int .i64 2) := ((HEB.out.below hb).cell 0).trans rfl; have e1 : w3.cell? ⟨w.heap.size + 1, 1, none⟩ = some (.int .i64 a) := ((HEB.out.below hb).cell 1).trans rfl; have e2 : w3.cell? ⟨w.heap.size + 1, 2, none⟩ = some (.int .i64 t) := ((HEB.out.below hb).cell 2).trans rfl; have e3 : w3.cell? ⟨w.heap.size + 1, 3, none⟩ = some (.int .i64 l) := ((HEB.out.below hb).cell 3).trans rfl; have HBC := Lib.hid hb; clear hb))
  go_ret
  exact ⟨rfl, H0.out.trans ((HBC.out : Below W0.heap.size W0 _).mono H0.out.size)⟩

set_option maxRecDepth 100000 in
theorem rend2_l (U : UnS) (a t l : Int) (h_ra : inR a U.regs) (h_tt : inR t U.blocks.length) (h_tl : ¬ inR l U.blocks.length) :
    Calls Tryd.prog 90 #[unV U Av cv Ab cb, edV ⟨2, a, t, l⟩] w fun x w' => x = .returned (.int .i64 (5)) ∧ Below w.heap.size w w' := by
  obtain ⟨W0, hW0⟩ : ∃ W0, W0 = (w.alloc (.cells (unC U Av cv Ab cb) 25)).alloc (.cells #[.int .i64 2, .int .i64 a, .int .i64 t, .int .i64 l] 71) := ⟨_, rfl⟩
  have hb0 : Below w.heap.size w W0 := by rw [hW0]; exact ((Below.refl _ _).alloc (Nat.le_refl _) _).alloc (by simp) _
  have hq : Blk W0 w.heap.size 25 (unC U Av cv Ab cb) := by rw [hW0]; exact (blk_new w rfl _ _).alloc _
  have he : Blk W0 (w.heap.size + 1) 71 #[.int .i64 2, .int .i64 a, .int .i64 t, .int .i64 l] := by rw [hW0]; exact blk_new _ (by simp) _ _
  have q0 : W0.cell? ⟨w.heap.size, 0, none⟩ = some (.slice Av U.sizes.length cv) := (hq.cell 0).trans rfl
  have q1 : W0.cell? ⟨w.heap.size, 1, none⟩ = some (.int .i64 U.params) := (hq.cell 1).trans rfl
  have q2 : W0.cell? ⟨w.heap.size, 2, none⟩ = some (.int .i64 U.regs) := (hq.cell 2).trans rfl
  have q3 : W0.cell? ⟨w.heap.size, 3, none⟩ = some (.int .i64 U.code) := (hq.cell 3).trans rfl
  have q4 : W0.cell? ⟨w.heap.size, 4, none⟩ = some (.int .i64 U.spill) := (hq.cell 4).trans rfl
  have q5 : W0.cell? ⟨w.heap.size, 5, none⟩ = some (.slice Ab U.blocks.length cb) := (hq.cell 5).trans rfl
  have e0 : W0.cell? ⟨w.heap.size + 1, 0, none⟩ = some (.int .i64 2) := (he.cell 0).trans rfl
  have e1 : W0.cell? ⟨w.heap.size + 1, 1, none⟩ = some (.int .i64 a) := (he.cell 1).trans rfl
  have e2 : W0.cell? ⟨w.heap.size + 1, 2, none⟩ = some (.int .i64 t) := (he.cell 2).trans rfl
  have e3 : W0.cell? ⟨w.heap.size + 1, 3, none⟩ = some (.int .i64 l) := (he.cell 3).trans rfl
  have ra : Hid (∀ W, Below W0.heap.size W0 W → Calls Tryd.prog 88 #[unV U Av cv Ab cb, .int .i64 a] W fun x w' => x = .returned (.bool true) ∧ Below W0.heap.size W0 w') := Lib.hid (fun W hb => by
    have h := rReg_any (U := U) (Av := Av) (cv := cv) (Ab := Ab) (cb := cb) a W
    rw [decide_eq_true h_ra] at h
    exact h.mono fun x w' ⟨h1, h2⟩ => ⟨h1, hb.trans (h2.mono hb.size)⟩)
  have tt : Hid (∀ W, Below W0.heap.size W0 W → Calls Tryd.prog 109 #[unV U Av cv Ab cb, .int .i64 t] W fun x w' => x = .returned (.bool true) ∧ Below W0.heap.size W0 w') := Lib.hid (fun W hb => by
    have h := rThere_any (U := U) (Av := Av) (cv := cv) (Ab := Ab) (cb := cb) t W
    rw [decide_eq_true h_tt] at h
    exact h.mono fun x w' ⟨h1, h2⟩ => ⟨h1, hb.trans (h2.mono hb.size)⟩)
  have tl : Hid (∀ W, Below W0.heap.size W0 W → Calls Tryd.prog 109 #[unV U Av cv Ab cb, .int .i64 l] W fun x w' => x = .returned (.bool false) ∧ Below W0.heap.size W0 w') := Lib.hid (fun W hb => by
    have h := rThere_any (U := U) (Av := Av) (cv := cv) (Ab := Ab) (cb := cb) l W
    rw [decide_eq_false h_tl] at h
    exact h.mono fun x w' ⟨h1, h2⟩ => ⟨h1, hb.trans (h2.mono hb.size)⟩)
  have KA : Hid (∀ W, Calls Tryd.prog 49 #[.int .i64 2] W fun x w' => x = .returned (.bool true) ∧ W = w') := Lib.hid fun W => rEndA_any 2 W
  have KT : Hid (∀ W, Calls Tryd.prog 28 #[.int .i64 2] W fun x w' => x = .returned (.bool true) ∧ W = w') := Lib.hid fun W => rEndTo_any 2 W
  have KL : Hid (∀ W, Calls Tryd.prog 29 #[.int .i64 2] W fun x w' => x = .returned (.bool true) ∧ W = w') := Lib.hid fun W => rEndElse_any 2 W
  clear h_ra h_tt h_tl
  have HW0 := Lib.hid hW0
  have H0 := Lib.hid hb0
  have HQ := Lib.hid hq
  have HEB := Lib.hid he
  clear hW0 hb0 hq he
  unfold unV unC edV at *
  go_enter Tryd.func90, Tryd.ntmps90
  go_upto_region 1 with fail
  rw [← HW0.out]
  go_wp2_with (first
    | (go_at_call 49; (with_reducible refine (KA.out _).mono ?_); rintro x w3 ⟨rfl, rfl⟩)
    | (go_at_call 28; (with_reducible refine (KT.out _).mono ?_); rintro x w3 ⟨rfl, rfl⟩)
    | (go_at_call 29; (with_reducible refine (KL.out _).mono ?_); rintro x w3 ⟨rfl, rfl⟩)
    | (go_at_call 88; (with_reducible refine (ra.out _ ?f).mono ?_); (case f => first | exact HBC.out | exact Below.refl _ _); rintro x w3 ⟨rfl, hb⟩; have q0 : w3.cell? ⟨w.heap.size, 0, none⟩ = some (.slice Av U.sizes.length cv) := ((HQ.out.below hb).cell 0).trans rfl; have q1 : w3.cell? ⟨w.heap.size, 1, none⟩ = some (.int .i64 U.params) := ((HQ.out.below hb).cell 1).trans rfl; have q2 : w3.cell? ⟨w.heap.size, 2, none⟩ = some (.int .i64 U.regs) := ((HQ.out.below hb).cell 2).trans rfl; have q3 : w3.cell? ⟨w.heap.size, 3, none⟩ = some (.int .i64 U.code) := ((HQ.out.below hb).cell 3).trans rfl; have q4 : w3.cell? ⟨w.heap.size, 4, none⟩ = some (.int .i64 U.spill) := ((HQ.out.below hb).cell 4).trans rfl; have q5 : w3.cell? ⟨w.heap.size, 5, none⟩ = some (.slice Ab U.blocks.length cb) := ((HQ.out.below hb).cell 5).trans rfl; have e0 : w3.cell? ⟨w.heap.size + 1, 0, none⟩ = some (.int .i64 2) := ((HEB.out.below hb).cell 0).trans rfl; have e1 : w3.cell? ⟨w.heap.size + 1, 1, none⟩ = some (.int .i64 a) := ((HEB.out.below hb).cell 1).trans rfl; have e2 : w3.cell? ⟨w.heap.size + 1, 2, none⟩ = some (.int .i64 t) := ((HEB.out.below hb).cell 2).trans rfl; have e3 : w3.cell? ⟨w.heap.size + 1, 3, none⟩ = some (.int .i64 l) := ((HEB.out.below hb).cell 3).trans rfl; have HBC := Lib.hid hb; clear hb)
    | (go_at_call 109; (with_reducible refine (tt.out _ ?f).mono ?_); (case f => first | exact HBC.out | exact Below.refl _ _); rintro x w3 ⟨rfl, hb⟩; have q0 : w3.cell? ⟨w.heap.size, 0, none⟩ = some (.slice Av U.sizes.length cv) := ((HQ.out.below hb).cell 0).trans rfl; have q1 : w3.cell? ⟨w.heap.size, 1, none⟩ = some (.int .i64 U.params) := ((HQ.out.below hb).cell 1).trans rfl; have q2 : w3.cell? ⟨w.heap.size, 2, none⟩ = some (.int .i64 U.regs) := ((HQ.out.below hb).cell 2).trans rfl; have q3 : w3.cell? ⟨w.heap.size, 3, none⟩ = some (.int .i64 U.code) := ((HQ.out.below hb).cell 3).trans rfl; have q4 : w3.cell? ⟨w.heap.size, 4, none⟩ = some (.int .i64 U.spill) := ((HQ.out.below hb).cell 4).trans rfl; have q5 : w3.cell? ⟨w.heap.size, 5, none⟩ = some (.slice Ab U.blocks.length cb) := ((HQ.out.below hb).cell 5).trans rfl; have e0 : w3.cell? ⟨w.heap.size + 1, 0, none⟩ = some (.int .i64 2) := ((HEB.out.below hb).cell 0).trans rfl; have e1 : w3.cell? ⟨w.heap.size + 1, 1, none⟩ = some (.int .i64 a) := ((HEB.out.below hb).cell 1).trans rfl; have e2 : w3.cell? ⟨w.heap.size + 1, 2, none⟩ = some (.int .i64 t) := ((HEB.out.below hb).cell 2).trans rfl; have e3 : w3.cell? ⟨w.heap.size + 1, 3, none⟩ = some (.int .i64 l) := ((HEB.out.below hb).cell 3).trans rfl; have HBC := Lib.hid hb; clear hb)
    | (go_at_call 109; (with_reducible refine (tl.out _ ?f).mono ?_); (case f => first | exact HBC.out | exact Below.refl _ _); rintro x w3 ⟨rfl, hb⟩; have q0 : w3.cell? ⟨w.heap.size, 0, none⟩ = some (.slice Av U.sizes.length cv) := ((HQ.out.below hb).cell 0).trans rfl; have q1 : w3.cell? ⟨w.heap.size, 1, none⟩ = some (.int .i64 U.params) := ((HQ.out.below hb).cell 1).trans rfl; have q2 : w3.cell? ⟨w.heap.size, 2, none⟩ = some (.int .i64 U.regs) := ((HQ.out.below hb).cell 2).trans rfl; have q3 : w3.cell? ⟨w.heap.size, 3, none⟩ = some (.int .i64 U.code) := ((HQ.out.below hb).cell 3).trans rfl; have q4 : w3.cell? ⟨w.heap.size, 4, none⟩ = some (.int .i64 U.spill) := ((HQ.out.below hb).cell 4).trans rfl; have q5 : w3.cell? ⟨w.heap.size, 5, none⟩ = some (.slice Ab U.blocks.length cb) := ((HQ.out.below hb).cell 5).trans rfl; have e0 : w3.cell? ⟨w.heap.size + 1, 0, none⟩ = some (.int .i64 2) := ((HEB.out.below hb).cell 0).trans rfl; have e1 : w3.cell? ⟨w.heap.size + 1, 1, none⟩ = some (.int .i64 a) := ((HEB.out.below hb).cell 1).trans rfl; have e2 : w3.cell? ⟨w.heap.size + 1, 2, none⟩ = some (.int .i64 t) := ((HEB.out.below hb).cell 2).trans rfl; have e3 : w3.cell? ⟨w.heap.size + 1, 3, none⟩ = some (.int .i64 l) := ((HEB.out.below hb).cell 3).trans rfl; have HBC := Lib.hid hb; clear hb))
  go_ret
  exact ⟨rfl, H0.out.trans ((HBC.out : Below W0.heap.size W0 _).mono H0.out.size)⟩

set_option maxRecDepth 100000 in
theorem rend2_0 (U : UnS) (a t l : Int) (h_ra : inR a U.regs) (h_tt : inR t U.blocks.length) (h_tl : inR l U.blocks.length) :
    Calls Tryd.prog 90 #[unV U Av cv Ab cb, edV ⟨2, a, t, l⟩] w fun x w' => x = .returned (.int .i64 (0)) ∧ Below w.heap.size w w' := by
  obtain ⟨W0, hW0⟩ : ∃ W0, W0 = (w.alloc (.cells (unC U Av cv Ab cb) 25)).alloc (.cells #[.int .i64 2, .int .i64 a, .int .i64 t, .int .i64 l] 71) := ⟨_, rfl⟩
  have hb0 : Below w.heap.size w W0 := by rw [hW0]; exact ((Below.refl _ _).alloc (Nat.le_refl _) _).alloc (by simp) _
  have hq : Blk W0 w.heap.size 25 (unC U Av cv Ab cb) := by rw [hW0]; exact (blk_new w rfl _ _).alloc _
  have he : Blk W0 (w.heap.size + 1) 71 #[.int .i64 2, .int .i64 a, .int .i64 t, .int .i64 l] := by rw [hW0]; exact blk_new _ (by simp) _ _
  have q0 : W0.cell? ⟨w.heap.size, 0, none⟩ = some (.slice Av U.sizes.length cv) := (hq.cell 0).trans rfl
  have q1 : W0.cell? ⟨w.heap.size, 1, none⟩ = some (.int .i64 U.params) := (hq.cell 1).trans rfl
  have q2 : W0.cell? ⟨w.heap.size, 2, none⟩ = some (.int .i64 U.regs) := (hq.cell 2).trans rfl
  have q3 : W0.cell? ⟨w.heap.size, 3, none⟩ = some (.int .i64 U.code) := (hq.cell 3).trans rfl
  have q4 : W0.cell? ⟨w.heap.size, 4, none⟩ = some (.int .i64 U.spill) := (hq.cell 4).trans rfl
  have q5 : W0.cell? ⟨w.heap.size, 5, none⟩ = some (.slice Ab U.blocks.length cb) := (hq.cell 5).trans rfl
  have e0 : W0.cell? ⟨w.heap.size + 1, 0, none⟩ = some (.int .i64 2) := (he.cell 0).trans rfl
  have e1 : W0.cell? ⟨w.heap.size + 1, 1, none⟩ = some (.int .i64 a) := (he.cell 1).trans rfl
  have e2 : W0.cell? ⟨w.heap.size + 1, 2, none⟩ = some (.int .i64 t) := (he.cell 2).trans rfl
  have e3 : W0.cell? ⟨w.heap.size + 1, 3, none⟩ = some (.int .i64 l) := (he.cell 3).trans rfl
  have ra : Hid (∀ W, Below W0.heap.size W0 W → Calls Tryd.prog 88 #[unV U Av cv Ab cb, .int .i64 a] W fun x w' => x = .returned (.bool true) ∧ Below W0.heap.size W0 w') := Lib.hid (fun W hb => by
    have h := rReg_any (U := U) (Av := Av) (cv := cv) (Ab := Ab) (cb := cb) a W
    rw [decide_eq_true h_ra] at h
    exact h.mono fun x w' ⟨h1, h2⟩ => ⟨h1, hb.trans (h2.mono hb.size)⟩)
  have tt : Hid (∀ W, Below W0.heap.size W0 W → Calls Tryd.prog 109 #[unV U Av cv Ab cb, .int .i64 t] W fun x w' => x = .returned (.bool true) ∧ Below W0.heap.size W0 w') := Lib.hid (fun W hb => by
    have h := rThere_any (U := U) (Av := Av) (cv := cv) (Ab := Ab) (cb := cb) t W
    rw [decide_eq_true h_tt] at h
    exact h.mono fun x w' ⟨h1, h2⟩ => ⟨h1, hb.trans (h2.mono hb.size)⟩)
  have tl : Hid (∀ W, Below W0.heap.size W0 W → Calls Tryd.prog 109 #[unV U Av cv Ab cb, .int .i64 l] W fun x w' => x = .returned (.bool true) ∧ Below W0.heap.size W0 w') := Lib.hid (fun W hb => by
    have h := rThere_any (U := U) (Av := Av) (cv := cv) (Ab := Ab) (cb := cb) l W
    rw [decide_eq_true h_tl] at h
    exact h.mono fun x w' ⟨h1, h2⟩ => ⟨h1, hb.trans (h2.mono hb.size)⟩)
  have KA : Hid (∀ W, Calls Tryd.prog 49 #[.int .i64 2] W fun x w' => x = .returned (.bool true) ∧ W = w') := Lib.hid fun W => rEndA_any 2 W
  have KT : Hid (∀ W, Calls Tryd.prog 28 #[.int .i64 2] W fun x w' => x = .returned (.bool true) ∧ W = w') := Lib.hid fun W => rEndTo_any 2 W
  have KL : Hid (∀ W, Calls Tryd.prog 29 #[.int .i64 2] W fun x w' => x = .returned (.bool true) ∧ W = w') := Lib.hid fun W => rEndElse_any 2 W
  clear h_ra h_tt h_tl
  have HW0 := Lib.hid hW0
  have H0 := Lib.hid hb0
  have HQ := Lib.hid hq
  have HEB := Lib.hid he
  clear hW0 hb0 hq he
  unfold unV unC edV at *
  go_enter Tryd.func90, Tryd.ntmps90
  go_upto_region 1 with fail
  rw [← HW0.out]
  go_wp2_with (first
    | (go_at_call 49; (with_reducible refine (KA.out _).mono ?_); rintro x w3 ⟨rfl, rfl⟩)
    | (go_at_call 28; (with_reducible refine (KT.out _).mono ?_); rintro x w3 ⟨rfl, rfl⟩)
    | (go_at_call 29; (with_reducible refine (KL.out _).mono ?_); rintro x w3 ⟨rfl, rfl⟩)
    | (go_at_call 88; (with_reducible refine (ra.out _ ?f).mono ?_); (case f => first | exact HBC.out | exact Below.refl _ _); rintro x w3 ⟨rfl, hb⟩; have q0 : w3.cell? ⟨w.heap.size, 0, none⟩ = some (.slice Av U.sizes.length cv) := ((HQ.out.below hb).cell 0).trans rfl; have q1 : w3.cell? ⟨w.heap.size, 1, none⟩ = some (.int .i64 U.params) := ((HQ.out.below hb).cell 1).trans rfl; have q2 : w3.cell? ⟨w.heap.size, 2, none⟩ = some (.int .i64 U.regs) := ((HQ.out.below hb).cell 2).trans rfl; have q3 : w3.cell? ⟨w.heap.size, 3, none⟩ = some (.int .i64 U.code) := ((HQ.out.below hb).cell 3).trans rfl; have q4 : w3.cell? ⟨w.heap.size, 4, none⟩ = some (.int .i64 U.spill) := ((HQ.out.below hb).cell 4).trans rfl; have q5 : w3.cell? ⟨w.heap.size, 5, none⟩ = some (.slice Ab U.blocks.length cb) := ((HQ.out.below hb).cell 5).trans rfl; have e0 : w3.cell? ⟨w.heap.size + 1, 0, none⟩ = some (.int .i64 2) := ((HEB.out.below hb).cell 0).trans rfl; have e1 : w3.cell? ⟨w.heap.size + 1, 1, none⟩ = some (.int .i64 a) := ((HEB.out.below hb).cell 1).trans rfl; have e2 : w3.cell? ⟨w.heap.size + 1, 2, none⟩ = some (.int .i64 t) := ((HEB.out.below hb).cell 2).trans rfl; have e3 : w3.cell? ⟨w.heap.size + 1, 3, none⟩ = some (.int .i64 l) := ((HEB.out.below hb).cell 3).trans rfl; have HBC := Lib.hid hb; clear hb)
    | (go_at_call 109; (with_reducible refine (tt.out _ ?f).mono ?_); (case f => first | exact HBC.out | exact Below.refl _ _); rintro x w3 ⟨rfl, hb⟩; have q0 : w3.cell? ⟨w.heap.size, 0, none⟩ = some (.slice Av U.sizes.length cv) := ((HQ.out.below hb).cell 0).trans rfl; have q1 : w3.cell? ⟨w.heap.size, 1, none⟩ = some (.int .i64 U.params) := ((HQ.out.below hb).cell 1).trans rfl; have q2 : w3.cell? ⟨w.heap.size, 2, none⟩ = some (.int .i64 U.regs) := ((HQ.out.below hb).cell 2).trans rfl; have q3 : w3.cell? ⟨w.heap.size, 3, none⟩ = some (.int .i64 U.code) := ((HQ.out.below hb).cell 3).trans rfl; have q4 : w3.cell? ⟨w.heap.size, 4, none⟩ = some (.int .i64 U.spill) := ((HQ.out.below hb).cell 4).trans rfl; have q5 : w3.cell? ⟨w.heap.size, 5, none⟩ = some (.slice Ab U.blocks.length cb) := ((HQ.out.below hb).cell 5).trans rfl; have e0 : w3.cell? ⟨w.heap.size + 1, 0, none⟩ = some (.int .i64 2) := ((HEB.out.below hb).cell 0).trans rfl; have e1 : w3.cell? ⟨w.heap.size + 1, 1, none⟩ = some (.int .i64 a) := ((HEB.out.below hb).cell 1).trans rfl; have e2 : w3.cell? ⟨w.heap.size + 1, 2, none⟩ = some (.int .i64 t) := ((HEB.out.below hb).cell 2).trans rfl; have e3 : w3.cell? ⟨w.heap.size + 1, 3, none⟩ = some (.int .i64 l) := ((HEB.out.below hb).cell 3).trans rfl; have HBC := Lib.hid hb; clear hb)
    | (go_at_call 109; (with_reducible refine (tl.out _ ?f).mono ?_); (case f => first | exact HBC.out | exact Below.refl _ _); rintro x w3 ⟨rfl, hb⟩; have q0 : w3.cell? ⟨w.heap.size, 0, none⟩ = some (.slice Av U.sizes.length cv) := ((HQ.out.below hb).cell 0).trans rfl; have q1 : w3.cell? ⟨w.heap.size, 1, none⟩ = some (.int .i64 U.params) := ((HQ.out.below hb).cell 1).trans rfl; have q2 : w3.cell? ⟨w.heap.size, 2, none⟩ = some (.int .i64 U.regs) := ((HQ.out.below hb).cell 2).trans rfl; have q3 : w3.cell? ⟨w.heap.size, 3, none⟩ = some (.int .i64 U.code) := ((HQ.out.below hb).cell 3).trans rfl; have q4 : w3.cell? ⟨w.heap.size, 4, none⟩ = some (.int .i64 U.spill) := ((HQ.out.below hb).cell 4).trans rfl; have q5 : w3.cell? ⟨w.heap.size, 5, none⟩ = some (.slice Ab U.blocks.length cb) := ((HQ.out.below hb).cell 5).trans rfl; have e0 : w3.cell? ⟨w.heap.size + 1, 0, none⟩ = some (.int .i64 2) := ((HEB.out.below hb).cell 0).trans rfl; have e1 : w3.cell? ⟨w.heap.size + 1, 1, none⟩ = some (.int .i64 a) := ((HEB.out.below hb).cell 1).trans rfl; have e2 : w3.cell? ⟨w.heap.size + 1, 2, none⟩ = some (.int .i64 t) := ((HEB.out.below hb).cell 2).trans rfl; have e3 : w3.cell? ⟨w.heap.size + 1, 3, none⟩ = some (.int .i64 l) := ((HEB.out.below hb).cell 3).trans rfl; have HBC := Lib.hid hb; clear hb))
  go_ret
  exact ⟨rfl, H0.out.trans ((HBC.out : Below W0.heap.size W0 _).mono H0.out.size)⟩

set_option maxRecDepth 100000 in
theorem rend3_a (U : UnS) (a t l : Int) (h_ra : ¬ inR a U.regs) :
    Calls Tryd.prog 90 #[unV U Av cv Ab cb, edV ⟨3, a, t, l⟩] w fun x w' => x = .returned (.int .i64 (2)) ∧ Below w.heap.size w w' := by
  obtain ⟨W0, hW0⟩ : ∃ W0, W0 = (w.alloc (.cells (unC U Av cv Ab cb) 25)).alloc (.cells #[.int .i64 3, .int .i64 a, .int .i64 t, .int .i64 l] 71) := ⟨_, rfl⟩
  have hb0 : Below w.heap.size w W0 := by rw [hW0]; exact ((Below.refl _ _).alloc (Nat.le_refl _) _).alloc (by simp) _
  have hq : Blk W0 w.heap.size 25 (unC U Av cv Ab cb) := by rw [hW0]; exact (blk_new w rfl _ _).alloc _
  have he : Blk W0 (w.heap.size + 1) 71 #[.int .i64 3, .int .i64 a, .int .i64 t, .int .i64 l] := by rw [hW0]; exact blk_new _ (by simp) _ _
  have q0 : W0.cell? ⟨w.heap.size, 0, none⟩ = some (.slice Av U.sizes.length cv) := (hq.cell 0).trans rfl
  have q1 : W0.cell? ⟨w.heap.size, 1, none⟩ = some (.int .i64 U.params) := (hq.cell 1).trans rfl
  have q2 : W0.cell? ⟨w.heap.size, 2, none⟩ = some (.int .i64 U.regs) := (hq.cell 2).trans rfl
  have q3 : W0.cell? ⟨w.heap.size, 3, none⟩ = some (.int .i64 U.code) := (hq.cell 3).trans rfl
  have q4 : W0.cell? ⟨w.heap.size, 4, none⟩ = some (.int .i64 U.spill) := (hq.cell 4).trans rfl
  have q5 : W0.cell? ⟨w.heap.size, 5, none⟩ = some (.slice Ab U.blocks.length cb) := (hq.cell 5).trans rfl
  have e0 : W0.cell? ⟨w.heap.size + 1, 0, none⟩ = some (.int .i64 3) := (he.cell 0).trans rfl
  have e1 : W0.cell? ⟨w.heap.size + 1, 1, none⟩ = some (.int .i64 a) := (he.cell 1).trans rfl
  have e2 : W0.cell? ⟨w.heap.size + 1, 2, none⟩ = some (.int .i64 t) := (he.cell 2).trans rfl
  have e3 : W0.cell? ⟨w.heap.size + 1, 3, none⟩ = some (.int .i64 l) := (he.cell 3).trans rfl
  have ra : Hid (∀ W, Below W0.heap.size W0 W → Calls Tryd.prog 88 #[unV U Av cv Ab cb, .int .i64 a] W fun x w' => x = .returned (.bool false) ∧ Below W0.heap.size W0 w') := Lib.hid (fun W hb => by
    have h := rReg_any (U := U) (Av := Av) (cv := cv) (Ab := Ab) (cb := cb) a W
    rw [decide_eq_false h_ra] at h
    exact h.mono fun x w' ⟨h1, h2⟩ => ⟨h1, hb.trans (h2.mono hb.size)⟩)
  have KA : Hid (∀ W, Calls Tryd.prog 49 #[.int .i64 3] W fun x w' => x = .returned (.bool true) ∧ W = w') := Lib.hid fun W => rEndA_any 3 W
  have KT : Hid (∀ W, Calls Tryd.prog 28 #[.int .i64 3] W fun x w' => x = .returned (.bool false) ∧ W = w') := Lib.hid fun W => rEndTo_any 3 W
  have KL : Hid (∀ W, Calls Tryd.prog 29 #[.int .i64 3] W fun x w' => x = .returned (.bool false) ∧ W = w') := Lib.hid fun W => rEndElse_any 3 W
  clear h_ra
  have HW0 := Lib.hid hW0
  have H0 := Lib.hid hb0
  have HQ := Lib.hid hq
  have HEB := Lib.hid he
  clear hW0 hb0 hq he
  unfold unV unC edV at *
  go_enter Tryd.func90, Tryd.ntmps90
  go_upto_region 1 with fail
  rw [← HW0.out]
  go_wp2_with (first
    | (go_at_call 49; (with_reducible refine (KA.out _).mono ?_); rintro x w3 ⟨rfl, rfl⟩)
    | (go_at_call 28; (with_reducible refine (KT.out _).mono ?_); rintro x w3 ⟨rfl, rfl⟩)
    | (go_at_call 29; (with_reducible refine (KL.out _).mono ?_); rintro x w3 ⟨rfl, rfl⟩)
    | (go_at_call 88; (with_reducible refine (ra.out _ ?f).mono ?_); (case f => first | exact HBC.out | exact Below.refl _ _); rintro x w3 ⟨rfl, hb⟩; have q0 : w3.cell? ⟨w.heap.size, 0, none⟩ = some (.slice Av U.sizes.length cv) := ((HQ.out.below hb).cell 0).trans rfl; have q1 : w3.cell? ⟨w.heap.size, 1, none⟩ = some (.int .i64 U.params) := ((HQ.out.below hb).cell 1).trans rfl; have q2 : w3.cell? ⟨w.heap.size, 2, none⟩ = some (.int .i64 U.regs) := ((HQ.out.below hb).cell 2).trans rfl; have q3 : w3.cell? ⟨w.heap.size, 3, none⟩ = some (.int .i64 U.code) := ((HQ.out.below hb).cell 3).trans rfl; have q4 : w3.cell? ⟨w.heap.size, 4, none⟩ = some (.int .i64 U.spill) := ((HQ.out.below hb).cell 4).trans rfl; have q5 : w3.cell? ⟨w.heap.size, 5, none⟩ = some (.slice Ab U.blocks.length cb) := ((HQ.out.below hb).cell 5).trans rfl; have e0 : w3.cell? ⟨w.heap.size + 1, 0, none⟩ = some (.int .i64 3) := ((HEB.out.below hb).cell 0).trans rfl; have e1 : w3.cell? ⟨w.heap.size + 1, 1, none⟩ = some (.int .i64 a) := ((HEB.out.below hb).cell 1).trans rfl; have e2 : w3.cell? ⟨w.heap.size + 1, 2, none⟩ = some (.int .i64 t) := ((HEB.out.below hb).cell 2).trans rfl; have e3 : w3.cell? ⟨w.heap.size + 1, 3, none⟩ = some (.int .i64 l) := ((HEB.out.below hb).cell 3).trans rfl; have HBC := Lib.hid hb; clear hb))
  go_ret
  exact ⟨rfl, H0.out.trans ((HBC.out : Below W0.heap.size W0 _).mono H0.out.size)⟩

set_option maxRecDepth 100000 in
theorem rend3_t (U : UnS) (a t l : Int) (h_ra : inR a U.regs) (ht : t ≠ 0) :
    Calls Tryd.prog 90 #[unV U Av cv Ab cb, edV ⟨3, a, t, l⟩] w fun x w' => x = .returned (.int .i64 (4)) ∧ Below w.heap.size w w' := by
  obtain ⟨W0, hW0⟩ : ∃ W0, W0 = (w.alloc (.cells (unC U Av cv Ab cb) 25)).alloc (.cells #[.int .i64 3, .int .i64 a, .int .i64 t, .int .i64 l] 71) := ⟨_, rfl⟩
  have hb0 : Below w.heap.size w W0 := by rw [hW0]; exact ((Below.refl _ _).alloc (Nat.le_refl _) _).alloc (by simp) _
  have hq : Blk W0 w.heap.size 25 (unC U Av cv Ab cb) := by rw [hW0]; exact (blk_new w rfl _ _).alloc _
  have he : Blk W0 (w.heap.size + 1) 71 #[.int .i64 3, .int .i64 a, .int .i64 t, .int .i64 l] := by rw [hW0]; exact blk_new _ (by simp) _ _
  have q0 : W0.cell? ⟨w.heap.size, 0, none⟩ = some (.slice Av U.sizes.length cv) := (hq.cell 0).trans rfl
  have q1 : W0.cell? ⟨w.heap.size, 1, none⟩ = some (.int .i64 U.params) := (hq.cell 1).trans rfl
  have q2 : W0.cell? ⟨w.heap.size, 2, none⟩ = some (.int .i64 U.regs) := (hq.cell 2).trans rfl
  have q3 : W0.cell? ⟨w.heap.size, 3, none⟩ = some (.int .i64 U.code) := (hq.cell 3).trans rfl
  have q4 : W0.cell? ⟨w.heap.size, 4, none⟩ = some (.int .i64 U.spill) := (hq.cell 4).trans rfl
  have q5 : W0.cell? ⟨w.heap.size, 5, none⟩ = some (.slice Ab U.blocks.length cb) := (hq.cell 5).trans rfl
  have e0 : W0.cell? ⟨w.heap.size + 1, 0, none⟩ = some (.int .i64 3) := (he.cell 0).trans rfl
  have e1 : W0.cell? ⟨w.heap.size + 1, 1, none⟩ = some (.int .i64 a) := (he.cell 1).trans rfl
  have e2 : W0.cell? ⟨w.heap.size + 1, 2, none⟩ = some (.int .i64 t) := (he.cell 2).trans rfl
  have e3 : W0.cell? ⟨w.heap.size + 1, 3, none⟩ = some (.int .i64 l) := (he.cell 3).trans rfl
  have ra : Hid (∀ W, Below W0.heap.size W0 W → Calls Tryd.prog 88 #[unV U Av cv Ab cb, .int .i64 a] W fun x w' => x = .returned (.bool true) ∧ Below W0.heap.size W0 w') := Lib.hid (fun W hb => by
    have h := rReg_any (U := U) (Av := Av) (cv := cv) (Ab := Ab) (cb := cb) a W
    rw [decide_eq_true h_ra] at h
    exact h.mono fun x w' ⟨h1, h2⟩ => ⟨h1, hb.trans (h2.mono hb.size)⟩)
  have KA : Hid (∀ W, Calls Tryd.prog 49 #[.int .i64 3] W fun x w' => x = .returned (.bool true) ∧ W = w') := Lib.hid fun W => rEndA_any 3 W
  have KT : Hid (∀ W, Calls Tryd.prog 28 #[.int .i64 3] W fun x w' => x = .returned (.bool false) ∧ W = w') := Lib.hid fun W => rEndTo_any 3 W
  have KL : Hid (∀ W, Calls Tryd.prog 29 #[.int .i64 3] W fun x w' => x = .returned (.bool false) ∧ W = w') := Lib.hid fun W => rEndElse_any 3 W
  clear h_ra
  have bht : (t != 0) = true := by simpa using ht
  clear ht
  have HW0 := Lib.hid hW0
  have H0 := Lib.hid hb0
  have HQ := Lib.hid hq
  have HEB := Lib.hid he
  clear hW0 hb0 hq he
  unfold unV unC edV at *
  go_enter Tryd.func90, Tryd.ntmps90
  go_upto_region 1 with fail
  rw [← HW0.out]
  go_wp2_with (first
    | (go_at_call 49; (with_reducible refine (KA.out _).mono ?_); rintro x w3 ⟨rfl, rfl⟩)
    | (go_at_call 28; (with_reducible refine (KT.out _).mono ?_); rintro x w3 ⟨rfl, rfl⟩)
    | (go_at_call 29; (with_reducible refine (KL.out _).mono ?_); rintro x w3 ⟨rfl, rfl⟩)
    | (go_at_call 88; (with_reducible refine (ra.out _ ?f).mono ?_); (case f => first | exact HBC.out | exact Below.refl _ _); rintro x w3 ⟨rfl, hb⟩; have q0 : w3.cell? ⟨w.heap.size, 0, none⟩ = some (.slice Av U.sizes.length cv) := ((HQ.out.below hb).cell 0).trans rfl; have q1 : w3.cell? ⟨w.heap.size, 1, none⟩ = some (.int .i64 U.params) := ((HQ.out.below hb).cell 1).trans rfl; have q2 : w3.cell? ⟨w.heap.size, 2, none⟩ = some (.int .i64 U.regs) := ((HQ.out.below hb).cell 2).trans rfl; have q3 : w3.cell? ⟨w.heap.size, 3, none⟩ = some (.int .i64 U.code) := ((HQ.out.below hb).cell 3).trans rfl; have q4 : w3.cell? ⟨w.heap.size, 4, none⟩ = some (.int .i64 U.spill) := ((HQ.out.below hb).cell 4).trans rfl; have q5 : w3.cell? ⟨w.heap.size, 5, none⟩ = some (.slice Ab U.blocks.length cb) := ((HQ.out.below hb).cell 5).trans rfl; have e0 : w3.cell? ⟨w.heap.size + 1, 0, none⟩ = some (.int .i64 3) := ((HEB.out.below hb).cell 0).trans rfl; have e1 : w3.cell? ⟨w.heap.size + 1, 1, none⟩ = some (.int .i64 a) := ((HEB.out.below hb).cell 1).trans rfl; have e2 : w3.cell? ⟨w.heap.size + 1, 2, none⟩ = some (.int .i64 t) := ((HEB.out.below hb).cell 2).trans rfl; have e3 : w3.cell? ⟨w.heap.size + 1, 3, none⟩ = some (.int .i64 l) := ((HEB.out.below hb).cell 3).trans rfl; have HBC := Lib.hid hb; clear hb))
  go_ret
  exact ⟨rfl, H0.out.trans ((HBC.out : Below W0.heap.size W0 _).mono H0.out.size)⟩

set_option maxRecDepth 100000 in
theorem rend3_l (U : UnS) (a t l : Int) (h_ra : inR a U.regs) (ht : t = 0) (hl : l ≠ 0) :
    Calls Tryd.prog 90 #[unV U Av cv Ab cb, edV ⟨3, a, t, l⟩] w fun x w' => x = .returned (.int .i64 (4)) ∧ Below w.heap.size w w' := by
  obtain ⟨W0, hW0⟩ : ∃ W0, W0 = (w.alloc (.cells (unC U Av cv Ab cb) 25)).alloc (.cells #[.int .i64 3, .int .i64 a, .int .i64 t, .int .i64 l] 71) := ⟨_, rfl⟩
  have hb0 : Below w.heap.size w W0 := by rw [hW0]; exact ((Below.refl _ _).alloc (Nat.le_refl _) _).alloc (by simp) _
  have hq : Blk W0 w.heap.size 25 (unC U Av cv Ab cb) := by rw [hW0]; exact (blk_new w rfl _ _).alloc _
  have he : Blk W0 (w.heap.size + 1) 71 #[.int .i64 3, .int .i64 a, .int .i64 t, .int .i64 l] := by rw [hW0]; exact blk_new _ (by simp) _ _
  have q0 : W0.cell? ⟨w.heap.size, 0, none⟩ = some (.slice Av U.sizes.length cv) := (hq.cell 0).trans rfl
  have q1 : W0.cell? ⟨w.heap.size, 1, none⟩ = some (.int .i64 U.params) := (hq.cell 1).trans rfl
  have q2 : W0.cell? ⟨w.heap.size, 2, none⟩ = some (.int .i64 U.regs) := (hq.cell 2).trans rfl
  have q3 : W0.cell? ⟨w.heap.size, 3, none⟩ = some (.int .i64 U.code) := (hq.cell 3).trans rfl
  have q4 : W0.cell? ⟨w.heap.size, 4, none⟩ = some (.int .i64 U.spill) := (hq.cell 4).trans rfl
  have q5 : W0.cell? ⟨w.heap.size, 5, none⟩ = some (.slice Ab U.blocks.length cb) := (hq.cell 5).trans rfl
  have e0 : W0.cell? ⟨w.heap.size + 1, 0, none⟩ = some (.int .i64 3) := (he.cell 0).trans rfl
  have e1 : W0.cell? ⟨w.heap.size + 1, 1, none⟩ = some (.int .i64 a) := (he.cell 1).trans rfl
  have e2 : W0.cell? ⟨w.heap.size + 1, 2, none⟩ = some (.int .i64 t) := (he.cell 2).trans rfl
  have e3 : W0.cell? ⟨w.heap.size + 1, 3, none⟩ = some (.int .i64 l) := (he.cell 3).trans rfl
  have ra : Hid (∀ W, Below W0.heap.size W0 W → Calls Tryd.prog 88 #[unV U Av cv Ab cb, .int .i64 a] W fun x w' => x = .returned (.bool true) ∧ Below W0.heap.size W0 w') := Lib.hid (fun W hb => by
    have h := rReg_any (U := U) (Av := Av) (cv := cv) (Ab := Ab) (cb := cb) a W
    rw [decide_eq_true h_ra] at h
    exact h.mono fun x w' ⟨h1, h2⟩ => ⟨h1, hb.trans (h2.mono hb.size)⟩)
  have KA : Hid (∀ W, Calls Tryd.prog 49 #[.int .i64 3] W fun x w' => x = .returned (.bool true) ∧ W = w') := Lib.hid fun W => rEndA_any 3 W
  have KT : Hid (∀ W, Calls Tryd.prog 28 #[.int .i64 3] W fun x w' => x = .returned (.bool false) ∧ W = w') := Lib.hid fun W => rEndTo_any 3 W
  have KL : Hid (∀ W, Calls Tryd.prog 29 #[.int .i64 3] W fun x w' => x = .returned (.bool false) ∧ W = w') := Lib.hid fun W => rEndElse_any 3 W
  clear h_ra
  have bht : (t != 0) = false := by simp [ht]
  clear ht
  have bhl : (l != 0) = true := by simpa using hl
  clear hl
  have HW0 := Lib.hid hW0
  have H0 := Lib.hid hb0
  have HQ := Lib.hid hq
  have HEB := Lib.hid he
  clear hW0 hb0 hq he
  unfold unV unC edV at *
  go_enter Tryd.func90, Tryd.ntmps90
  go_upto_region 1 with fail
  rw [← HW0.out]
  go_wp2_with (first
    | (go_at_call 49; (with_reducible refine (KA.out _).mono ?_); rintro x w3 ⟨rfl, rfl⟩)
    | (go_at_call 28; (with_reducible refine (KT.out _).mono ?_); rintro x w3 ⟨rfl, rfl⟩)
    | (go_at_call 29; (with_reducible refine (KL.out _).mono ?_); rintro x w3 ⟨rfl, rfl⟩)
    | (go_at_call 88; (with_reducible refine (ra.out _ ?f).mono ?_); (case f => first | exact HBC.out | exact Below.refl _ _); rintro x w3 ⟨rfl, hb⟩; have q0 : w3.cell? ⟨w.heap.size, 0, none⟩ = some (.slice Av U.sizes.length cv) := ((HQ.out.below hb).cell 0).trans rfl; have q1 : w3.cell? ⟨w.heap.size, 1, none⟩ = some (.int .i64 U.params) := ((HQ.out.below hb).cell 1).trans rfl; have q2 : w3.cell? ⟨w.heap.size, 2, none⟩ = some (.int .i64 U.regs) := ((HQ.out.below hb).cell 2).trans rfl; have q3 : w3.cell? ⟨w.heap.size, 3, none⟩ = some (.int .i64 U.code) := ((HQ.out.below hb).cell 3).trans rfl; have q4 : w3.cell? ⟨w.heap.size, 4, none⟩ = some (.int .i64 U.spill) := ((HQ.out.below hb).cell 4).trans rfl; have q5 : w3.cell? ⟨w.heap.size, 5, none⟩ = some (.slice Ab U.blocks.length cb) := ((HQ.out.below hb).cell 5).trans rfl; have e0 : w3.cell? ⟨w.heap.size + 1, 0, none⟩ = some (.int .i64 3) := ((HEB.out.below hb).cell 0).trans rfl; have e1 : w3.cell? ⟨w.heap.size + 1, 1, none⟩ = some (.int .i64 a) := ((HEB.out.below hb).cell 1).trans rfl; have e2 : w3.cell? ⟨w.heap.size + 1, 2, none⟩ = some (.int .i64 t) := ((HEB.out.below hb).cell 2).trans rfl; have e3 : w3.cell? ⟨w.heap.size + 1, 3, none⟩ = some (.int .i64 l) := ((HEB.out.below hb).cell 3).trans rfl; have HBC := Lib.hid hb; clear hb))
  go_ret
  exact ⟨rfl, H0.out.trans ((HBC.out : Below W0.heap.size W0 _).mono H0.out.size)⟩

set_option maxRecDepth 100000 in
theorem rend3_0 (U : UnS) (a t l : Int) (h_ra : inR a U.regs) (ht : t = 0) (hl : l = 0) :
    Calls Tryd.prog 90 #[unV U Av cv Ab cb, edV ⟨3, a, t, l⟩] w fun x w' => x = .returned (.int .i64 (0)) ∧ Below w.heap.size w w' := by
  obtain ⟨W0, hW0⟩ : ∃ W0, W0 = (w.alloc (.cells (unC U Av cv Ab cb) 25)).alloc (.cells #[.int .i64 3, .int .i64 a, .int .i64 t, .int .i64 l] 71) := ⟨_, rfl⟩
  have hb0 : Below w.heap.size w W0 := by rw [hW0]; exact ((Below.refl _ _).alloc (Nat.le_refl _) _).alloc (by simp) _
  have hq : Blk W0 w.heap.size 25 (unC U Av cv Ab cb) := by rw [hW0]; exact (blk_new w rfl _ _).alloc _
  have he : Blk W0 (w.heap.size + 1) 71 #[.int .i64 3, .int .i64 a, .int .i64 t, .int .i64 l] := by rw [hW0]; exact blk_new _ (by simp) _ _
  have q0 : W0.cell? ⟨w.heap.size, 0, none⟩ = some (.slice Av U.sizes.length cv) := (hq.cell 0).trans rfl
  have q1 : W0.cell? ⟨w.heap.size, 1, none⟩ = some (.int .i64 U.params) := (hq.cell 1).trans rfl
  have q2 : W0.cell? ⟨w.heap.size, 2, none⟩ = some (.int .i64 U.regs) := (hq.cell 2).trans rfl
  have q3 : W0.cell? ⟨w.heap.size, 3, none⟩ = some (.int .i64 U.code) := (hq.cell 3).trans rfl
  have q4 : W0.cell? ⟨w.heap.size, 4, none⟩ = some (.int .i64 U.spill) := (hq.cell 4).trans rfl
  have q5 : W0.cell? ⟨w.heap.size, 5, none⟩ = some (.slice Ab U.blocks.length cb) := (hq.cell 5).trans rfl
  have e0 : W0.cell? ⟨w.heap.size + 1, 0, none⟩ = some (.int .i64 3) := (he.cell 0).trans rfl
  have e1 : W0.cell? ⟨w.heap.size + 1, 1, none⟩ = some (.int .i64 a) := (he.cell 1).trans rfl
  have e2 : W0.cell? ⟨w.heap.size + 1, 2, none⟩ = some (.int .i64 t) := (he.cell 2).trans rfl
  have e3 : W0.cell? ⟨w.heap.size + 1, 3, none⟩ = some (.int .i64 l) := (he.cell 3).trans rfl
  have ra : Hid (∀ W, Below W0.heap.size W0 W → Calls Tryd.prog 88 #[unV U Av cv Ab cb, .int .i64 a] W fun x w' => x = .returned (.bool true) ∧ Below W0.heap.size W0 w') := Lib.hid (fun W hb => by
    have h := rReg_any (U := U) (Av := Av) (cv := cv) (Ab := Ab) (cb := cb) a W
    rw [decide_eq_true h_ra] at h
    exact h.mono fun x w' ⟨h1, h2⟩ => ⟨h1, hb.trans (h2.mono hb.size)⟩)
  have KA : Hid (∀ W, Calls Tryd.prog 49 #[.int .i64 3] W fun x w' => x = .returned (.bool true) ∧ W = w') := Lib.hid fun W => rEndA_any 3 W
  have KT : Hid (∀ W, Calls Tryd.prog 28 #[.int .i64 3] W fun x w' => x = .returned (.bool false) ∧ W = w') := Lib.hid fun W => rEndTo_any 3 W
  have KL : Hid (∀ W, Calls Tryd.prog 29 #[.int .i64 3] W fun x w' => x = .returned (.bool false) ∧ W = w') := Lib.hid fun W => rEndElse_any 3 W
  clear h_ra
  have bht : (t != 0) = false := by simp [ht]
  clear ht
  have bhl : (l != 0) = false := by simp [hl]
  clear hl
  have HW0 := Lib.hid hW0
  have H0 := Lib.hid hb0
  have HQ := Lib.hid hq
  have HEB := Lib.hid he
  clear hW0 hb0 hq he
  unfold unV unC edV at *
  go_enter Tryd.func90, Tryd.ntmps90
  go_upto_region 1 with fail
  rw [← HW0.out]
  go_wp2_with (first
    | (go_at_call 49; (with_reducible refine (KA.out _).mono ?_); rintro x w3 ⟨rfl, rfl⟩)
    | (go_at_call 28; (with_reducible refine (KT.out _).mono ?_); rintro x w3 ⟨rfl, rfl⟩)
    | (go_at_call 29; (with_reducible refine (KL.out _).mono ?_); rintro x w3 ⟨rfl, rfl⟩)
    | (go_at_call 88; (with_reducible refine (ra.out _ ?f).mono ?_); (case f => first | exact HBC.out | exact Below.refl _ _); rintro x w3 ⟨rfl, hb⟩; have q0 : w3.cell? ⟨w.heap.size, 0, none⟩ = some (.slice Av U.sizes.length cv) := ((HQ.out.below hb).cell 0).trans rfl; have q1 : w3.cell? ⟨w.heap.size, 1, none⟩ = some (.int .i64 U.params) := ((HQ.out.below hb).cell 1).trans rfl; have q2 : w3.cell? ⟨w.heap.size, 2, none⟩ = some (.int .i64 U.regs) := ((HQ.out.below hb).cell 2).trans rfl; have q3 : w3.cell? ⟨w.heap.size, 3, none⟩ = some (.int .i64 U.code) := ((HQ.out.below hb).cell 3).trans rfl; have q4 : w3.cell? ⟨w.heap.size, 4, none⟩ = some (.int .i64 U.spill) := ((HQ.out.below hb).cell 4).trans rfl; have q5 : w3.cell? ⟨w.heap.size, 5, none⟩ = some (.slice Ab U.blocks.length cb) := ((HQ.out.below hb).cell 5).trans rfl; have e0 : w3.cell? ⟨w.heap.size + 1, 0, none⟩ = some (.int .i64 3) := ((HEB.out.below hb).cell 0).trans rfl; have e1 : w3.cell? ⟨w.heap.size + 1, 1, none⟩ = some (.int .i64 a) := ((HEB.out.below hb).cell 1).trans rfl; have e2 : w3.cell? ⟨w.heap.size + 1, 2, none⟩ = some (.int .i64 t) := ((HEB.out.below hb).cell 2).trans rfl; have e3 : w3.cell? ⟨w.heap.size + 1, 3, none⟩ = some (.int .i64 l) := ((HEB.out.below hb).cell 3).trans rfl; have HBC := Lib.hid hb; clear hb))
  go_ret
  exact ⟨rfl, H0.out.trans ((HBC.out : Below W0.heap.size W0 _).mono H0.out.size)⟩

set_option maxRecDepth 100000 in
theorem rend4_a (U : UnS) (a t l : Int) (h_ra : ¬ inR a U.regs) :
    Calls Tryd.prog 90 #[unV U Av cv Ab cb, edV ⟨4, a, t, l⟩] w fun x w' => x = .returned (.int .i64 (2)) ∧ Below w.heap.size w w' := by
  obtain ⟨W0, hW0⟩ : ∃ W0, W0 = (w.alloc (.cells (unC U Av cv Ab cb) 25)).alloc (.cells #[.int .i64 4, .int .i64 a, .int .i64 t, .int .i64 l] 71) := ⟨_, rfl⟩
  have hb0 : Below w.heap.size w W0 := by rw [hW0]; exact ((Below.refl _ _).alloc (Nat.le_refl _) _).alloc (by simp) _
  have hq : Blk W0 w.heap.size 25 (unC U Av cv Ab cb) := by rw [hW0]; exact (blk_new w rfl _ _).alloc _
  have he : Blk W0 (w.heap.size + 1) 71 #[.int .i64 4, .int .i64 a, .int .i64 t, .int .i64 l] := by rw [hW0]; exact blk_new _ (by simp) _ _
  have q0 : W0.cell? ⟨w.heap.size, 0, none⟩ = some (.slice Av U.sizes.length cv) := (hq.cell 0).trans rfl
  have q1 : W0.cell? ⟨w.heap.size, 1, none⟩ = some (.int .i64 U.params) := (hq.cell 1).trans rfl
  have q2 : W0.cell? ⟨w.heap.size, 2, none⟩ = some (.int .i64 U.regs) := (hq.cell 2).trans rfl
  have q3 : W0.cell? ⟨w.heap.size, 3, none⟩ = some (.int .i64 U.code) := (hq.cell 3).trans rfl
  have q4 : W0.cell? ⟨w.heap.size, 4, none⟩ = some (.int .i64 U.spill) := (hq.cell 4).trans rfl
  have q5 : W0.cell? ⟨w.heap.size, 5, none⟩ = some (.slice Ab U.blocks.length cb) := (hq.cell 5).trans rfl
  have e0 : W0.cell? ⟨w.heap.size + 1, 0, none⟩ = some (.int .i64 4) := (he.cell 0).trans rfl
  have e1 : W0.cell? ⟨w.heap.size + 1, 1, none⟩ = some (.int .i64 a) := (he.cell 1).trans rfl
  have e2 : W0.cell? ⟨w.heap.size + 1, 2, none⟩ = some (.int .i64 t) := (he.cell 2).trans rfl
  have e3 : W0.cell? ⟨w.heap.size + 1, 3, none⟩ = some (.int .i64 l) := (he.cell 3).trans rfl
  have ra : Hid (∀ W, Below W0.heap.size W0 W → Calls Tryd.prog 88 #[unV U Av cv Ab cb, .int .i64 a] W fun x w' => x = .returned (.bool false) ∧ Below W0.heap.size W0 w') := Lib.hid (fun W hb => by
    have h := rReg_any (U := U) (Av := Av) (cv := cv) (Ab := Ab) (cb := cb) a W
    rw [decide_eq_false h_ra] at h
    exact h.mono fun x w' ⟨h1, h2⟩ => ⟨h1, hb.trans (h2.mono hb.size)⟩)
  have KA : Hid (∀ W, Calls Tryd.prog 49 #[.int .i64 4] W fun x w' => x = .returned (.bool true) ∧ W = w') := Lib.hid fun W => rEndA_any 4 W
  have KT : Hid (∀ W, Calls Tryd.prog 28 #[.int .i64 4] W fun x w' => x = .returned (.bool false) ∧ W = w') := Lib.hid fun W => rEndTo_any 4 W
  have KL : Hid (∀ W, Calls Tryd.prog 29 #[.int .i64 4] W fun x w' => x = .returned (.bool false) ∧ W = w') := Lib.hid fun W => rEndElse_any 4 W
  clear h_ra
  have HW0 := Lib.hid hW0
  have H0 := Lib.hid hb0
  have HQ := Lib.hid hq
  have HEB := Lib.hid he
  clear hW0 hb0 hq he
  unfold unV unC edV at *
  go_enter Tryd.func90, Tryd.ntmps90
  go_upto_region 1 with fail
  rw [← HW0.out]
  go_wp2_with (first
    | (go_at_call 49; (with_reducible refine (KA.out _).mono ?_); rintro x w3 ⟨rfl, rfl⟩)
    | (go_at_call 28; (with_reducible refine (KT.out _).mono ?_); rintro x w3 ⟨rfl, rfl⟩)
    | (go_at_call 29; (with_reducible refine (KL.out _).mono ?_); rintro x w3 ⟨rfl, rfl⟩)
    | (go_at_call 88; (with_reducible refine (ra.out _ ?f).mono ?_); (case f => first | exact HBC.out | exact Below.refl _ _); rintro x w3 ⟨rfl, hb⟩; have q0 : w3.cell? ⟨w.heap.size, 0, none⟩ = some (.slice Av U.sizes.length cv) := ((HQ.out.below hb).cell 0).trans rfl; have q1 : w3.cell? ⟨w.heap.size, 1, none⟩ = some (.int .i64 U.params) := ((HQ.out.below hb).cell 1).trans rfl; have q2 : w3.cell? ⟨w.heap.size, 2, none⟩ = some (.int .i64 U.regs) := ((HQ.out.below hb).cell 2).trans rfl; have q3 : w3.cell? ⟨w.heap.size, 3, none⟩ = some (.int .i64 U.code) := ((HQ.out.below hb).cell 3).trans rfl; have q4 : w3.cell? ⟨w.heap.size, 4, none⟩ = some (.int .i64 U.spill) := ((HQ.out.below hb).cell 4).trans rfl; have q5 : w3.cell? ⟨w.heap.size, 5, none⟩ = some (.slice Ab U.blocks.length cb) := ((HQ.out.below hb).cell 5).trans rfl; have e0 : w3.cell? ⟨w.heap.size + 1, 0, none⟩ = some (.int .i64 4) := ((HEB.out.below hb).cell 0).trans rfl; have e1 : w3.cell? ⟨w.heap.size + 1, 1, none⟩ = some (.int .i64 a) := ((HEB.out.below hb).cell 1).trans rfl; have e2 : w3.cell? ⟨w.heap.size + 1, 2, none⟩ = some (.int .i64 t) := ((HEB.out.below hb).cell 2).trans rfl; have e3 : w3.cell? ⟨w.heap.size + 1, 3, none⟩ = some (.int .i64 l) := ((HEB.out.below hb).cell 3).trans rfl; have HBC := Lib.hid hb; clear hb))
  go_ret
  exact ⟨rfl, H0.out.trans ((HBC.out : Below W0.heap.size W0 _).mono H0.out.size)⟩

set_option maxRecDepth 100000 in
theorem rend4_t (U : UnS) (a t l : Int) (h_ra : inR a U.regs) (ht : t ≠ 0) :
    Calls Tryd.prog 90 #[unV U Av cv Ab cb, edV ⟨4, a, t, l⟩] w fun x w' => x = .returned (.int .i64 (4)) ∧ Below w.heap.size w w' := by
  obtain ⟨W0, hW0⟩ : ∃ W0, W0 = (w.alloc (.cells (unC U Av cv Ab cb) 25)).alloc (.cells #[.int .i64 4, .int .i64 a, .int .i64 t, .int .i64 l] 71) := ⟨_, rfl⟩
  have hb0 : Below w.heap.size w W0 := by rw [hW0]; exact ((Below.refl _ _).alloc (Nat.le_refl _) _).alloc (by simp) _
  have hq : Blk W0 w.heap.size 25 (unC U Av cv Ab cb) := by rw [hW0]; exact (blk_new w rfl _ _).alloc _
  have he : Blk W0 (w.heap.size + 1) 71 #[.int .i64 4, .int .i64 a, .int .i64 t, .int .i64 l] := by rw [hW0]; exact blk_new _ (by simp) _ _
  have q0 : W0.cell? ⟨w.heap.size, 0, none⟩ = some (.slice Av U.sizes.length cv) := (hq.cell 0).trans rfl
  have q1 : W0.cell? ⟨w.heap.size, 1, none⟩ = some (.int .i64 U.params) := (hq.cell 1).trans rfl
  have q2 : W0.cell? ⟨w.heap.size, 2, none⟩ = some (.int .i64 U.regs) := (hq.cell 2).trans rfl
  have q3 : W0.cell? ⟨w.heap.size, 3, none⟩ = some (.int .i64 U.code) := (hq.cell 3).trans rfl
  have q4 : W0.cell? ⟨w.heap.size, 4, none⟩ = some (.int .i64 U.spill) := (hq.cell 4).trans rfl
  have q5 : W0.cell? ⟨w.heap.size, 5, none⟩ = some (.slice Ab U.blocks.length cb) := (hq.cell 5).trans rfl
  have e0 : W0.cell? ⟨w.heap.size + 1, 0, none⟩ = some (.int .i64 4) := (he.cell 0).trans rfl
  have e1 : W0.cell? ⟨w.heap.size + 1, 1, none⟩ = some (.int .i64 a) := (he.cell 1).trans rfl
  have e2 : W0.cell? ⟨w.heap.size + 1, 2, none⟩ = some (.int .i64 t) := (he.cell 2).trans rfl
  have e3 : W0.cell? ⟨w.heap.size + 1, 3, none⟩ = some (.int .i64 l) := (he.cell 3).trans rfl
  have ra : Hid (∀ W, Below W0.heap.size W0 W → Calls Tryd.prog 88 #[unV U Av cv Ab cb, .int .i64 a] W fun x w' => x = .returned (.bool true) ∧ Below W0.heap.size W0 w') := Lib.hid (fun W hb => by
    have h := rReg_any (U := U) (Av := Av) (cv := cv) (Ab := Ab) (cb := cb) a W
    rw [decide_eq_true h_ra] at h
    exact h.mono fun x w' ⟨h1, h2⟩ => ⟨h1, hb.trans (h2.mono hb.size)⟩)
  have KA : Hid (∀ W, Calls Tryd.prog 49 #[.int .i64 4] W fun x w' => x = .returned (.bool true) ∧ W = w') := Lib.hid fun W => rEndA_any 4 W
  have KT : Hid (∀ W, Calls Tryd.prog 28 #[.int .i64 4] W fun x w' => x = .returned (.bool false) ∧ W = w') := Lib.hid fun W => rEndTo_any 4 W
  have KL : Hid (∀ W, Calls Tryd.prog 29 #[.int .i64 4] W fun x w' => x = .returned (.bool false) ∧ W = w') := Lib.hid fun W => rEndElse_any 4 W
  clear h_ra
  have bht : (t != 0) = true := by simpa using ht
  clear ht
  have HW0 := Lib.hid hW0
  have H0 := Lib.hid hb0
  have HQ := Lib.hid hq
  have HEB := Lib.hid he
  clear hW0 hb0 hq he
  unfold unV unC edV at *
  go_enter Tryd.func90, Tryd.ntmps90
  go_upto_region 1 with fail
  rw [← HW0.out]
  go_wp2_with (first
    | (go_at_call 49; (with_reducible refine (KA.out _).mono ?_); rintro x w3 ⟨rfl, rfl⟩)
    | (go_at_call 28; (with_reducible refine (KT.out _).mono ?_); rintro x w3 ⟨rfl, rfl⟩)
    | (go_at_call 29; (with_reducible refine (KL.out _).mono ?_); rintro x w3 ⟨rfl, rfl⟩)
    | (go_at_call 88; (with_reducible refine (ra.out _ ?f).mono ?_); (case f => first | exact HBC.out | exact Below.refl _ _); rintro x w3 ⟨rfl, hb⟩; have q0 : w3.cell? ⟨w.heap.size, 0, none⟩ = some (.slice Av U.sizes.length cv) := ((HQ.out.below hb).cell 0).trans rfl; have q1 : w3.cell? ⟨w.heap.size, 1, none⟩ = some (.int .i64 U.params) := ((HQ.out.below hb).cell 1).trans rfl; have q2 : w3.cell? ⟨w.heap.size, 2, none⟩ = some (.int .i64 U.regs) := ((HQ.out.below hb).cell 2).trans rfl; have q3 : w3.cell? ⟨w.heap.size, 3, none⟩ = some (.int .i64 U.code) := ((HQ.out.below hb).cell 3).trans rfl; have q4 : w3.cell? ⟨w.heap.size, 4, none⟩ = some (.int .i64 U.spill) := ((HQ.out.below hb).cell 4).trans rfl; have q5 : w3.cell? ⟨w.heap.size, 5, none⟩ = some (.slice Ab U.blocks.length cb) := ((HQ.out.below hb).cell 5).trans rfl; have e0 : w3.cell? ⟨w.heap.size + 1, 0, none⟩ = some (.int .i64 4) := ((HEB.out.below hb).cell 0).trans rfl; have e1 : w3.cell? ⟨w.heap.size + 1, 1, none⟩ = some (.int .i64 a) := ((HEB.out.below hb).cell 1).trans rfl; have e2 : w3.cell? ⟨w.heap.size + 1, 2, none⟩ = some (.int .i64 t) := ((HEB.out.below hb).cell 2).trans rfl; have e3 : w3.cell? ⟨w.heap.size + 1, 3, none⟩ = some (.int .i64 l) := ((HEB.out.below hb).cell 3).trans rfl; have HBC := Lib.hid hb; clear hb))
  go_ret
  exact ⟨rfl, H0.out.trans ((HBC.out : Below W0.heap.size W0 _).mono H0.out.size)⟩

set_option maxRecDepth 100000 in
theorem rend4_l (U : UnS) (a t l : Int) (h_ra : inR a U.regs) (ht : t = 0) (hl : l ≠ 0) :
    Calls Tryd.prog 90 #[unV U Av cv Ab cb, edV ⟨4, a, t, l⟩] w fun x w' => x = .returned (.int .i64 (4)) ∧ Below w.heap.size w w' := by
  obtain ⟨W0, hW0⟩ : ∃ W0, W0 = (w.alloc (.cells (unC U Av cv Ab cb) 25)).alloc (.cells #[.int .i64 4, .int .i64 a, .int .i64 t, .int .i64 l] 71) := ⟨_, rfl⟩
  have hb0 : Below w.heap.size w W0 := by rw [hW0]; exact ((Below.refl _ _).alloc (Nat.le_refl _) _).alloc (by simp) _
  have hq : Blk W0 w.heap.size 25 (unC U Av cv Ab cb) := by rw [hW0]; exact (blk_new w rfl _ _).alloc _
  have he : Blk W0 (w.heap.size + 1) 71 #[.int .i64 4, .int .i64 a, .int .i64 t, .int .i64 l] := by rw [hW0]; exact blk_new _ (by simp) _ _
  have q0 : W0.cell? ⟨w.heap.size, 0, none⟩ = some (.slice Av U.sizes.length cv) := (hq.cell 0).trans rfl
  have q1 : W0.cell? ⟨w.heap.size, 1, none⟩ = some (.int .i64 U.params) := (hq.cell 1).trans rfl
  have q2 : W0.cell? ⟨w.heap.size, 2, none⟩ = some (.int .i64 U.regs) := (hq.cell 2).trans rfl
  have q3 : W0.cell? ⟨w.heap.size, 3, none⟩ = some (.int .i64 U.code) := (hq.cell 3).trans rfl
  have q4 : W0.cell? ⟨w.heap.size, 4, none⟩ = some (.int .i64 U.spill) := (hq.cell 4).trans rfl
  have q5 : W0.cell? ⟨w.heap.size, 5, none⟩ = some (.slice Ab U.blocks.length cb) := (hq.cell 5).trans rfl
  have e0 : W0.cell? ⟨w.heap.size + 1, 0, none⟩ = some (.int .i64 4) := (he.cell 0).trans rfl
  have e1 : W0.cell? ⟨w.heap.size + 1, 1, none⟩ = some (.int .i64 a) := (he.cell 1).trans rfl
  have e2 : W0.cell? ⟨w.heap.size + 1, 2, none⟩ = some (.int .i64 t) := (he.cell 2).trans rfl
  have e3 : W0.cell? ⟨w.heap.size + 1, 3, none⟩ = some (.int .i64 l) := (he.cell 3).trans rfl
  have ra : Hid (∀ W, Below W0.heap.size W0 W → Calls Tryd.prog 88 #[unV U Av cv Ab cb, .int .i64 a] W fun x w' => x = .returned (.bool true) ∧ Below W0.heap.size W0 w') := Lib.hid (fun W hb => by
    have h := rReg_any (U := U) (Av := Av) (cv := cv) (Ab := Ab) (cb := cb) a W
    rw [decide_eq_true h_ra] at h
    exact h.mono fun x w' ⟨h1, h2⟩ => ⟨h1, hb.trans (h2.mono hb.size)⟩)
  have KA : Hid (∀ W, Calls Tryd.prog 49 #[.int .i64 4] W fun x w' => x = .returned (.bool true) ∧ W = w') := Lib.hid fun W => rEndA_any 4 W
  have KT : Hid (∀ W, Calls Tryd.prog 28 #[.int .i64 4] W fun x w' => x = .returned (.bool false) ∧ W = w') := Lib.hid fun W => rEndTo_any 4 W
  have KL : Hid (∀ W, Calls Tryd.prog 29 #[.int .i64 4] W fun x w' => x = .returned (.bool false) ∧ W = w') := Lib.hid fun W => rEndElse_any 4 W
  clear h_ra
  have bht : (t != 0) = false := by simp [ht]
  clear ht
  have bhl : (l != 0) = true := by simpa using hl
  clear hl
  have HW0 := Lib.hid hW0
  have H0 := Lib.hid hb0
  have HQ := Lib.hid hq
  have HEB := Lib.hid he
  clear hW0 hb0 hq he
  unfold unV unC edV at *
  go_enter Tryd.func90, Tryd.ntmps90
  go_upto_region 1 with fail
  rw [← HW0.out]
  go_wp2_with (first
    | (go_at_call 49; (with_reducible refine (KA.out _).mono ?_); rintro x w3 ⟨rfl, rfl⟩)
    | (go_at_call 28; (with_reducible refine (KT.out _).mono ?_); rintro x w3 ⟨rfl, rfl⟩)
    | (go_at_call 29; (with_reducible refine (KL.out _).mono ?_); rintro x w3 ⟨rfl, rfl⟩)
    | (go_at_call 88; (with_reducible refine (ra.out _ ?f).mono ?_); (case f => first | exact HBC.out | exact Below.refl _ _); rintro x w3 ⟨rfl, hb⟩; have q0 : w3.cell? ⟨w.heap.size, 0, none⟩ = some (.slice Av U.sizes.length cv) := ((HQ.out.below hb).cell 0).trans rfl; have q1 : w3.cell? ⟨w.heap.size, 1, none⟩ = some (.int .i64 U.params) := ((HQ.out.below hb).cell 1).trans rfl; have q2 : w3.cell? ⟨w.heap.size, 2, none⟩ = some (.int .i64 U.regs) := ((HQ.out.below hb).cell 2).trans rfl; have q3 : w3.cell? ⟨w.heap.size, 3, none⟩ = some (.int .i64 U.code) := ((HQ.out.below hb).cell 3).trans rfl; have q4 : w3.cell? ⟨w.heap.size, 4, none⟩ = some (.int .i64 U.spill) := ((HQ.out.below hb).cell 4).trans rfl; have q5 : w3.cell? ⟨w.heap.size, 5, none⟩ = some (.slice Ab U.blocks.length cb) := ((HQ.out.below hb).cell 5).trans rfl; have e0 : w3.cell? ⟨w.heap.size + 1, 0, none⟩ = some (.int .i64 4) := ((HEB.out.below hb).cell 0).trans rfl; have e1 : w3.cell? ⟨w.heap.size + 1, 1, none⟩ = some (.int .i64 a) := ((HEB.out.below hb).cell 1).trans rfl; have e2 : w3.cell? ⟨w.heap.size + 1, 2, none⟩ = some (.int .i64 t) := ((HEB.out.below hb).cell 2).trans rfl; have e3 : w3.cell? ⟨w.heap.size + 1, 3, none⟩ = some (.int .i64 l) := ((HEB.out.below hb).cell 3).trans rfl; have HBC := Lib.hid hb; clear hb))
  go_ret
  exact ⟨rfl, H0.out.trans ((HBC.out : Below W0.heap.size W0 _).mono H0.out.size)⟩

set_option maxRecDepth 100000 in
theorem rend4_0 (U : UnS) (a t l : Int) (h_ra : inR a U.regs) (ht : t = 0) (hl : l = 0) :
    Calls Tryd.prog 90 #[unV U Av cv Ab cb, edV ⟨4, a, t, l⟩] w fun x w' => x = .returned (.int .i64 (0)) ∧ Below w.heap.size w w' := by
  obtain ⟨W0, hW0⟩ : ∃ W0, W0 = (w.alloc (.cells (unC U Av cv Ab cb) 25)).alloc (.cells #[.int .i64 4, .int .i64 a, .int .i64 t, .int .i64 l] 71) := ⟨_, rfl⟩
  have hb0 : Below w.heap.size w W0 := by rw [hW0]; exact ((Below.refl _ _).alloc (Nat.le_refl _) _).alloc (by simp) _
  have hq : Blk W0 w.heap.size 25 (unC U Av cv Ab cb) := by rw [hW0]; exact (blk_new w rfl _ _).alloc _
  have he : Blk W0 (w.heap.size + 1) 71 #[.int .i64 4, .int .i64 a, .int .i64 t, .int .i64 l] := by rw [hW0]; exact blk_new _ (by simp) _ _
  have q0 : W0.cell? ⟨w.heap.size, 0, none⟩ = some (.slice Av U.sizes.length cv) := (hq.cell 0).trans rfl
  have q1 : W0.cell? ⟨w.heap.size, 1, none⟩ = some (.int .i64 U.params) := (hq.cell 1).trans rfl
  have q2 : W0.cell? ⟨w.heap.size, 2, none⟩ = some (.int .i64 U.regs) := (hq.cell 2).trans rfl
  have q3 : W0.cell? ⟨w.heap.size, 3, none⟩ = some (.int .i64 U.code) := (hq.cell 3).trans rfl
  have q4 : W0.cell? ⟨w.heap.size, 4, none⟩ = some (.int .i64 U.spill) := (hq.cell 4).trans rfl
  have q5 : W0.cell? ⟨w.heap.size, 5, none⟩ = some (.slice Ab U.blocks.length cb) := (hq.cell 5).trans rfl
  have e0 : W0.cell? ⟨w.heap.size + 1, 0, none⟩ = some (.int .i64 4) := (he.cell 0).trans rfl
  have e1 : W0.cell? ⟨w.heap.size + 1, 1, none⟩ = some (.int .i64 a) := (he.cell 1).trans rfl
  have e2 : W0.cell? ⟨w.heap.size + 1, 2, none⟩ = some (.int .i64 t) := (he.cell 2).trans rfl
  have e3 : W0.cell? ⟨w.heap.size + 1, 3, none⟩ = some (.int .i64 l) := (he.cell 3).trans rfl
  have ra : Hid (∀ W, Below W0.heap.size W0 W → Calls Tryd.prog 88 #[unV U Av cv Ab cb, .int .i64 a] W fun x w' => x = .returned (.bool true) ∧ Below W0.heap.size W0 w') := Lib.hid (fun W hb => by
    have h := rReg_any (U := U) (Av := Av) (cv := cv) (Ab := Ab) (cb := cb) a W
    rw [decide_eq_true h_ra] at h
    exact h.mono fun x w' ⟨h1, h2⟩ => ⟨h1, hb.trans (h2.mono hb.size)⟩)
  have KA : Hid (∀ W, Calls Tryd.prog 49 #[.int .i64 4] W fun x w' => x = .returned (.bool true) ∧ W = w') := Lib.hid fun W => rEndA_any 4 W
  have KT : Hid (∀ W, Calls Tryd.prog 28 #[.int .i64 4] W fun x w' => x = .returned (.bool false) ∧ W = w') := Lib.hid fun W => rEndTo_any 4 W
  have KL : Hid (∀ W, Calls Tryd.prog 29 #[.int .i64 4] W fun x w' => x = .returned (.bool false) ∧ W = w') := Lib.hid fun W => rEndElse_any 4 W
  clear h_ra
  have bht : (t != 0) = false := by simp [ht]
  clear ht
  have bhl : (l != 0) = false := by simp [hl]
  clear hl
  have HW0 := Lib.hid hW0
  have H0 := Lib.hid hb0
  have HQ := Lib.hid hq
  have HEB := Lib.hid he
  clear hW0 hb0 hq he
  unfold unV unC edV at *
  go_enter Tryd.func90, Tryd.ntmps90
  go_upto_region 1 with fail
  rw [← HW0.out]
  go_wp2_with (first
    | (go_at_call 49; (with_reducible refine (KA.out _).mono ?_); rintro x w3 ⟨rfl, rfl⟩)
    | (go_at_call 28; (with_reducible refine (KT.out _).mono ?_); rintro x w3 ⟨rfl, rfl⟩)
    | (go_at_call 29; (with_reducible refine (KL.out _).mono ?_); rintro x w3 ⟨rfl, rfl⟩)
    | (go_at_call 88; (with_reducible refine (ra.out _ ?f).mono ?_); (case f => first | exact HBC.out | exact Below.refl _ _); rintro x w3 ⟨rfl, hb⟩; have q0 : w3.cell? ⟨w.heap.size, 0, none⟩ = some (.slice Av U.sizes.length cv) := ((HQ.out.below hb).cell 0).trans rfl; have q1 : w3.cell? ⟨w.heap.size, 1, none⟩ = some (.int .i64 U.params) := ((HQ.out.below hb).cell 1).trans rfl; have q2 : w3.cell? ⟨w.heap.size, 2, none⟩ = some (.int .i64 U.regs) := ((HQ.out.below hb).cell 2).trans rfl; have q3 : w3.cell? ⟨w.heap.size, 3, none⟩ = some (.int .i64 U.code) := ((HQ.out.below hb).cell 3).trans rfl; have q4 : w3.cell? ⟨w.heap.size, 4, none⟩ = some (.int .i64 U.spill) := ((HQ.out.below hb).cell 4).trans rfl; have q5 : w3.cell? ⟨w.heap.size, 5, none⟩ = some (.slice Ab U.blocks.length cb) := ((HQ.out.below hb).cell 5).trans rfl; have e0 : w3.cell? ⟨w.heap.size + 1, 0, none⟩ = some (.int .i64 4) := ((HEB.out.below hb).cell 0).trans rfl; have e1 : w3.cell? ⟨w.heap.size + 1, 1, none⟩ = some (.int .i64 a) := ((HEB.out.below hb).cell 1).trans rfl; have e2 : w3.cell? ⟨w.heap.size + 1, 2, none⟩ = some (.int .i64 t) := ((HEB.out.below hb).cell 2).trans rfl; have e3 : w3.cell? ⟨w.heap.size + 1, 3, none⟩ = some (.int .i64 l) := ((HEB.out.below hb).cell 3).trans rfl; have HBC := Lib.hid hb; clear hb))
  go_ret
  exact ⟨rfl, H0.out.trans ((HBC.out : Below W0.heap.size W0 _).mono H0.out.size)⟩

set_option maxRecDepth 100000 in
theorem rend_lo (U : UnS) (k : Int) (a t l : Int) (hk : k < 1) :
    Calls Tryd.prog 90 #[unV U Av cv Ab cb, edV ⟨k, a, t, l⟩] w fun x w' => x = .returned (.int .i64 (4)) ∧ Below w.heap.size w w' := by
  obtain ⟨W0, hW0⟩ : ∃ W0, W0 = (w.alloc (.cells (unC U Av cv Ab cb) 25)).alloc (.cells #[.int .i64 k, .int .i64 a, .int .i64 t, .int .i64 l] 71) := ⟨_, rfl⟩
  have hb0 : Below w.heap.size w W0 := by rw [hW0]; exact ((Below.refl _ _).alloc (Nat.le_refl _) _).alloc (by simp) _
  have hq : Blk W0 w.heap.size 25 (unC U Av cv Ab cb) := by rw [hW0]; exact (blk_new w rfl _ _).alloc _
  have he : Blk W0 (w.heap.size + 1) 71 #[.int .i64 k, .int .i64 a, .int .i64 t, .int .i64 l] := by rw [hW0]; exact blk_new _ (by simp) _ _
  have q0 : W0.cell? ⟨w.heap.size, 0, none⟩ = some (.slice Av U.sizes.length cv) := (hq.cell 0).trans rfl
  have q1 : W0.cell? ⟨w.heap.size, 1, none⟩ = some (.int .i64 U.params) := (hq.cell 1).trans rfl
  have q2 : W0.cell? ⟨w.heap.size, 2, none⟩ = some (.int .i64 U.regs) := (hq.cell 2).trans rfl
  have q3 : W0.cell? ⟨w.heap.size, 3, none⟩ = some (.int .i64 U.code) := (hq.cell 3).trans rfl
  have q4 : W0.cell? ⟨w.heap.size, 4, none⟩ = some (.int .i64 U.spill) := (hq.cell 4).trans rfl
  have q5 : W0.cell? ⟨w.heap.size, 5, none⟩ = some (.slice Ab U.blocks.length cb) := (hq.cell 5).trans rfl
  have e0 : W0.cell? ⟨w.heap.size + 1, 0, none⟩ = some (.int .i64 k) := (he.cell 0).trans rfl
  have e1 : W0.cell? ⟨w.heap.size + 1, 1, none⟩ = some (.int .i64 a) := (he.cell 1).trans rfl
  have e2 : W0.cell? ⟨w.heap.size + 1, 2, none⟩ = some (.int .i64 t) := (he.cell 2).trans rfl
  have e3 : W0.cell? ⟨w.heap.size + 1, 3, none⟩ = some (.int .i64 l) := (he.cell 3).trans rfl
  have HW0 := Lib.hid hW0
  have H0 := Lib.hid hb0
  have HQ := Lib.hid hq
  have HEB := Lib.hid he
  clear hW0 hb0 hq he
  unfold unV unC edV at *
  go_enter Tryd.func90, Tryd.ntmps90
  go_upto_region 1 with fail
  rw [← HW0.out]
  go_wp2
  go_ret
  exact ⟨rfl, H0.out⟩

set_option maxRecDepth 100000 in
theorem rend_hi (U : UnS) (k : Int) (a t l : Int) (hk : 4 < k) :
    Calls Tryd.prog 90 #[unV U Av cv Ab cb, edV ⟨k, a, t, l⟩] w fun x w' => x = .returned (.int .i64 (4)) ∧ Below w.heap.size w w' := by
  obtain ⟨W0, hW0⟩ : ∃ W0, W0 = (w.alloc (.cells (unC U Av cv Ab cb) 25)).alloc (.cells #[.int .i64 k, .int .i64 a, .int .i64 t, .int .i64 l] 71) := ⟨_, rfl⟩
  have hb0 : Below w.heap.size w W0 := by rw [hW0]; exact ((Below.refl _ _).alloc (Nat.le_refl _) _).alloc (by simp) _
  have hq : Blk W0 w.heap.size 25 (unC U Av cv Ab cb) := by rw [hW0]; exact (blk_new w rfl _ _).alloc _
  have he : Blk W0 (w.heap.size + 1) 71 #[.int .i64 k, .int .i64 a, .int .i64 t, .int .i64 l] := by rw [hW0]; exact blk_new _ (by simp) _ _
  have q0 : W0.cell? ⟨w.heap.size, 0, none⟩ = some (.slice Av U.sizes.length cv) := (hq.cell 0).trans rfl
  have q1 : W0.cell? ⟨w.heap.size, 1, none⟩ = some (.int .i64 U.params) := (hq.cell 1).trans rfl
  have q2 : W0.cell? ⟨w.heap.size, 2, none⟩ = some (.int .i64 U.regs) := (hq.cell 2).trans rfl
  have q3 : W0.cell? ⟨w.heap.size, 3, none⟩ = some (.int .i64 U.code) := (hq.cell 3).trans rfl
  have q4 : W0.cell? ⟨w.heap.size, 4, none⟩ = some (.int .i64 U.spill) := (hq.cell 4).trans rfl
  have q5 : W0.cell? ⟨w.heap.size, 5, none⟩ = some (.slice Ab U.blocks.length cb) := (hq.cell 5).trans rfl
  have e0 : W0.cell? ⟨w.heap.size + 1, 0, none⟩ = some (.int .i64 k) := (he.cell 0).trans rfl
  have e1 : W0.cell? ⟨w.heap.size + 1, 1, none⟩ = some (.int .i64 a) := (he.cell 1).trans rfl
  have e2 : W0.cell? ⟨w.heap.size + 1, 2, none⟩ = some (.int .i64 t) := (he.cell 2).trans rfl
  have e3 : W0.cell? ⟨w.heap.size + 1, 3, none⟩ = some (.int .i64 l) := (he.cell 3).trans rfl
  have HW0 := Lib.hid hW0
  have H0 := Lib.hid hb0
  have HQ := Lib.hid hq
  have HEB := Lib.hid he
  clear hW0 hb0 hq he
  unfold unV unC edV at *
  go_enter Tryd.func90, Tryd.ntmps90
  go_upto_region 1 with fail
  rw [← HW0.out]
  go_wp2
  go_ret
  exact ⟨rfl, H0.out⟩

theorem rend_any (U : UnS) (e : EdS) : Calls Tryd.prog 90 #[unV U Av cv Ab cb, edV e] w fun x w' => x = .returned (.int .i64 (edErr U e)) ∧ Below w.heap.size w w' := by
  obtain ⟨k, a, t, l⟩ := e
  have go : ∀ {v : Int}, edErr U ⟨k, a, t, l⟩ = v → (Calls Tryd.prog 90 #[unV U Av cv Ab cb, edV ⟨k, a, t, l⟩] w fun x w' => x = .returned (.int .i64 v) ∧ Below w.heap.size w w') → Calls Tryd.prog 90 #[unV U Av cv Ab cb, edV ⟨k, a, t, l⟩] w fun x w' => x = .returned (.int .i64 (edErr U ⟨k, a, t, l⟩)) ∧ Below w.heap.size w w' := fun e h => by rw [e]; exact h
  rcases Int.lt_or_le k 1 with h | h1
  · exact go (v := 4) (by unfold edErr; rw [if_pos (by simp only; omega)]) (rend_lo U k a t l h)
  rcases Int.lt_or_le 4 k with h | h4
  · exact go (v := 4) (by unfold edErr; rw [if_pos (by simp only; omega)]) (rend_hi U k a t l h)
  obtain rfl | rfl | rfl | rfl : k = 1 ∨ k = 2 ∨ k = 3 ∨ k = 4 := by omega
  · by_cases c1 : inR t U.blocks.length
    · by_cases c2 : a = 0
      · by_cases c3 : l = 0
        · exact go (v := 0) (by unfold edErr; simp [c1, c2, c3]) (rend1_0 U a t l c1 c2 c3)
        · exact go (v := 4) (by unfold edErr; simp [c1, c2, c3]) (rend1_l U a t l c1 c2 c3)
      · exact go (v := 4) (by unfold edErr; simp [c1, c2]) (rend1_a U a t l c1 c2)
    · exact go (v := 5) (by unfold edErr; simp [c1]) (rend1_t U a t l c1)
  · by_cases c0 : inR a U.regs
    · by_cases c1 : inR t U.blocks.length
      · by_cases c2 : inR l U.blocks.length
        · exact go (v := 0) (by unfold edErr; simp [c0, c1, c2]) (rend2_0 U a t l c0 c1 c2)
        · exact go (v := 5) (by unfold edErr; simp [c0, c1, c2]) (rend2_l U a t l c0 c1 c2)
      · exact go (v := 5) (by unfold edErr; simp [c0, c1]) (rend2_t U a t l c0 c1)
    · exact go (v := 2) (by unfold edErr; simp [c0]) (rend2_a U a t l c0)
  · by_cases c0 : inR a U.regs
    · by_cases c1 : t = 0
      · by_cases c2 : l = 0
        · exact go (v := 0) (by unfold edErr; simp [c0, c1, c2]) (rend3_0 U a t l c0 c1 c2)
        · exact go (v := 4) (by unfold edErr; simp [c0, c1, c2]) (rend3_l U a t l c0 c1 c2)
      · exact go (v := 4) (by unfold edErr; simp [c0, c1]) (rend3_t U a t l c0 c1)
    · exact go (v := 2) (by unfold edErr; simp [c0]) (rend3_a U a t l c0)
  · by_cases c0 : inR a U.regs
    · by_cases c1 : t = 0
      · by_cases c2 : l = 0
        · exact go (v := 0) (by unfold edErr; simp [c0, c1, c2]) (rend4_0 U a t l c0 c1 c2)
        · exact go (v := 4) (by unfold edErr; simp [c0, c1, c2]) (rend4_l U a t l c0 c1 c2)
      · exact go (v := 4) (by unfold edErr; simp [c0, c1]) (rend4_t U a t l c0 c1)
    · exact go (v := 2) (by unfold edErr; simp [c0]) (rend4_a U a t l c0)
end Go.Proofs.YtfkjkdoloamakaaDoor
