/- Poisons of package code, where what Poisoned answers is known. -/
import Derived.Test.YtfkjkdoloamakaaDoorYe
import Derived.Test.YtfkjkdoloamakaaDoorMg
namespace Go.Proofs.YtfkjkdoloamakaaDoor
open Go.RowKit
set_option linter.unusedVariables false
set_option linter.unusedSimpArgs false
variable {w : World} {F : Nat → Prop} {U : UnS} {Av Ab : Option Addr} {cv cb : Nat}

/-- what Poisoned answers -/
def MayR (U : UnS) (w : World) (x : Ending) (w' : World) : Prop :=
  ∃ gR gC R C, x = .returned (.agg #[.slice (some ⟨gR, 0, none⟩) R.length R.length, .slice (some ⟨gC, 0, none⟩) C.length C.length]) ∧ Blk w' gR 4 (boolV R).toArray ∧ Blk w' gC 4 (boolV C).toArray ∧ gR ≠ gC ∧ w.heap.size ≤ gR ∧ w.heap.size ≤ gC ∧ (R.length : Int) = U.regs ∧ (C.length : Int) = U.spill ∧ Closed U R C ∧ Below w.heap.size w w'

set_option maxRecDepth 100000 in
set_option maxHeartbeats 1000000 in
theorem poisons_ok (hc : CkSays w U Av cv Ab cb 0) (hp : ∀ W, Below w.heap.size w W → Calls Tryd.prog 68 #[unV U Av cv Ab cb] W (MayR U W)) :
    Calls Tryd.prog 35 #[unV U Av cv Ab cb] w fun x w' => ∃ g R C, x = .returned (.tuple #[.slice (some ⟨g, 0, none⟩) R.length R.length, .int .i64 0]) ∧ Blk w' g 4 (boolV R).toArray ∧ w.heap.size ≤ g ∧ (R.length : Int) = U.regs ∧ (C.length : Int) = U.spill ∧ Closed U R C ∧ Below w.heap.size w w' := by
  obtain ⟨W0, hW0⟩ : ∃ W0, W0 = w.alloc (.cells (unC U Av cv Ab cb) 25) := ⟨_, rfl⟩
  have hb0 : Below w.heap.size w W0 := by rw [hW0]; exact (Below.refl _ _).alloc (Nat.le_refl _) _
  have hbx : Blk W0 w.heap.size 25 (unC U Av cv Ab cb) := by rw [hW0]; exact blk_new w rfl _ _
  have kc := hc W0 hb0
  have kp := fun (W : World) (hb : Below W0.heap.size W0 W) => hp W (hb0.trans (hb.mono hb0.size))
  unfold MayR at kp
  unfold unV at *
  unfold unC at *
  have KC := Lib.hid kc
  have KP := Lib.hid kp
  have HW0 := Lib.hid hW0
  have HB0 := Lib.hid hb0
  have HBX := Lib.hid hbx
  clear kc kp hc hp hW0 hb0 hbx
  have hfd : ∀ (g1 n1 c1 g2 n2 c2 : Nat) (W : World), (Instr.field 122 (.agg #[.slice (some ⟨g1, 0, none⟩) n1 c1, .slice (some ⟨g2, 0, none⟩) n2 c2]) 0).run Tryd.prog W = .ok (.slice (some ⟨g1, 0, none⟩) n1 c1) W := fun _ _ _ _ _ _ _ => by kernel_rfl
  go_enter Tryd.func35, Tryd.ntmps35
  go_wp2_with (first
    | (go_at_call 18; (rw [← HW0.out]); refine (KC.out).mono ?_; rintro x w1 ⟨rfl, hb1⟩; have hbk := HBX.out.below hb1; have q0 : w1.cell? ⟨w.heap.size, 0, none⟩ = some (.slice Av U.sizes.length cv) := (hbk.cell 0).trans rfl; have q1 : w1.cell? ⟨w.heap.size, 1, none⟩ = some (.int .i64 U.params) := (hbk.cell 1).trans rfl; have q2 : w1.cell? ⟨w.heap.size, 2, none⟩ = some (.int .i64 U.regs) := (hbk.cell 2).trans rfl; have q3 : w1.cell? ⟨w.heap.size, 3, none⟩ = some (.int .i64 U.code) := (hbk.cell 3).trans rfl; have q4 : w1.cell? ⟨w.heap.size, 4, none⟩ = some (.int .i64 U.spill) := (hbk.cell 4).trans rfl; have q5 : w1.cell? ⟨w.heap.size, 5, none⟩ = some (.slice Ab U.blocks.length cb) := (hbk.cell 5).trans rfl; have HB1 := Lib.hid hb1; clear hb1 hbk)
    | (go_at_call 68; refine (KP.out _ HB1.out).mono ?_; rintro x w2 ⟨gR, gC, R, C, rfl, hR, hC, hne, hgR, hgC, hRl, hCl, hcl, hb2⟩; have HX := Lib.hid (And.intro hR (And.intro hgR (And.intro hRl (And.intro hCl (And.intro hcl hb2))))); clear hR hC hne hgR hgC hRl hCl hcl hb2))
  go_ret2
  obtain ⟨hR, hgR, hRl, hCl, hcl, hb2⟩ := HX.out
  have hbw : Below w.heap.size w w1 := HB0.out.trans (HB1.out.mono HB0.out.size)
  exact ⟨gR, R, C, rfl, hR, Nat.le_trans hbw.size hgR, hRl, hCl, hcl, hbw.trans (hb2.mono hbw.size)⟩
set_option maxRecDepth 100000 in
set_option maxHeartbeats 1000000 in
theorem poisons_bad (e : Int) (he : e ≠ 0) (hc : CkSays w U Av cv Ab cb e) :
    Calls Tryd.prog 35 #[unV U Av cv Ab cb] w fun x w' => x = .returned (.tuple #[.slice none 0 0, .int .i64 e]) ∧ Below w.heap.size w w' := by
  obtain ⟨W0, hW0⟩ : ∃ W0, W0 = w.alloc (.cells (unC U Av cv Ab cb) 25) := ⟨_, rfl⟩
  have hb0 : Below w.heap.size w W0 := by rw [hW0]; exact (Below.refl _ _).alloc (Nat.le_refl _) _
  have kc := hc W0 hb0
  have hbe : (e != 0) = true := by simpa using he
  unfold unV at *
  unfold unC at *
  have KC := Lib.hid kc
  have HW0 := Lib.hid hW0
  have HB0 := Lib.hid hb0
  clear kc hc hW0 hb0 he
  go_enter Tryd.func35, Tryd.ntmps35
  go_wp2_with (go_at_call 18; (rw [← HW0.out]); refine (KC.out).mono ?_; rintro x w1 ⟨rfl, hb1⟩; have HB1 := Lib.hid hb1; clear hb1)
  go_ret2
  exact ⟨rfl, HB0.out.trans (HB1.out.mono HB0.out.size)⟩
end Go.Proofs.YtfkjkdoloamakaaDoor
