/- Check of package code answers OK to a right unit. -/
import Derived.Test.YtfkjkdoloamakaaDoorRz
import Derived.Defers
import Derived.Recover
namespace Go.Proofs.YtfkjkdoloamakaaDoor
open Go.RowKit
set_option linter.unusedVariables false
set_option linter.unusedSimpArgs false
variable {w : World} {c : Nat} {U : UnS} {Av Ab : Option Addr} {cv cb : Nat} {F : Nat → Prop}

theorem fault_e (a b c : Int) (w : World) : (Instr.field 105 (.agg #[.int .i64 a, .int .i64 b, .int .i64 c]) 2).run Tryd.prog w = .ok (.int .i64 c) w := by kernel_rfl
/-- a unit as a value -/
def unV (U : UnS) (Av : Option Addr) (cv : Nat) (Ab : Option Addr) (cb : Nat) : Value :=
  .agg #[.slice Av U.sizes.length cv, .int .i64 U.params, .int .i64 U.regs, .int .i64 U.code, .int .i64 U.spill, .slice Ab U.blocks.length cb]
theorem find1_idle (p : Addr) (w : World) :
    CallsD Tryd.prog 74 #[.pointer (some p)] .returning w fun e u' w' => e = .returned (.tuple #[]) ∧ u' = .returning ∧ w' = w := by
  refine callsD_of_wpS Tryd.func74 rfl fun c₀ cs hu => ?_
  apply wpS_seq
  apply wpS_region
  simp [wpOpsS, go_sem, recoverD, hu, Tryd.ntmps74, Exit.thenS]
  apply wpS_seq
  apply wpS_region
  simp [wpOpsS, go_sem, Exit.thenS]
  refine wpS_cond (t := false) (by simp [Act.eval, Array.replicate]) ?_
  simp only [Bool.false_eq_true, if_false]
  refine wpS_of_wp (wp_skip ?_)
  cases c₀
  simp_all [bodyPostS, results, Tryd.results74]
theorem frz {M : Nat → Prop} {w w' : World} (h : Fr M w w') {a : Addr} {v : Bool} (hc : w.frozen? a = v) (hl : a.block < w.heap.size) (hn : ¬ M a.block) : w'.frozen? a = v :=
  (World.frozen?_of_block (h.block a.block hl hn)).trans hc
set_option maxRecDepth 100000 in
theorem find_ok (G : UnFine U) (hs : Row F w (.slice Av U.sizes.length cv) U.sizes.length 1 (numV U.sizes)) (hr : RdBlocks F w (.slice Ab U.blocks.length cb) U.blocks) (hF : ∀ g, F g → g < w.heap.size) (V : Env w) :
    Calls Tryd.prog 43 #[unV U Av cv Ab cb] w fun x w' => x = .returned (.agg #[.int .i64 0, .int .i64 0, .int .i64 0]) ∧ Below w.heap.size w w' := by
  have hmf : ∀ (fn : Fn) (first cap : Array Value) (w : World), (Instr.makeFunc fn first cap).run Tryd.prog w = .ok (.func fn first cap) w := fun _ _ _ _ => rfl
  have HG := Lib.hid G
  have HS := Lib.hid hs
  have HR := Lib.hid hr
  have HF := Lib.hid hF
  have HV := Lib.hid V
  clear G hs hr hF V
  unfold unV
  go_enter_defers Tryd.func43, Tryd.ntmps43
  go_wp2_with (go_at_call 75; refine (unit_ok (U := U) (Av := Av) (cv := cv) (Ab := Ab) (cb := cb) (F := F) HG.out ⟨0, 0, ?bk⟩ ?hs ?hr ?hF ?hV ?hg).mono ?_; (case bk => exact blk_new _ (by simp) _ _); (case hs => exact HS.out.fr (M := fun _ => False) ((((Fr.refl _ w).alloc _).alloc _).alloc _) (fun _ _ => not_false)); (case hr => exact HR.out.fr (M := fun _ => False) ((((Fr.refl _ w).alloc _).alloc _).alloc _) (fun _ _ => not_false)); (case hF => exact fun g hg e => by have := HF.out g hg; omega); (case hV => exact HV.out.fr (M := fun _ => False) ((((Fr.refl _ w).alloc _).alloc _).alloc _) not_false); (case hg => have := lt_of_var gForms HV.out; omega); rintro x w2 ⟨rfl, hf⟩; have z0 : w2.cell? ⟨w.heap.size + 1, 0, none⟩ = some (.int .i64 0) := hf.cell ?za ?zb; (case za => simp [go_sem]); (case zb => (intro h; have h' : w.heap.size + 1 = w.heap.size + 1 + 1 := h; omega)); have y0 : w2.frozen? ⟨w.heap.size + 1, 0, none⟩ = false := frz hf ?za ?zb ?zc; (case za => simp [go_sem]); (case zb => simp); (case zc => (intro h; have h' : w.heap.size + 1 = w.heap.size + 1 + 1 := h; omega)); have z1 : w2.cell? ⟨w.heap.size + 1, 1, none⟩ = some (.int .i64 0) := hf.cell ?za ?zb; (case za => simp [go_sem]); (case zb => (intro h; have h' : w.heap.size + 1 = w.heap.size + 1 + 1 := h; omega)); have y1 : w2.frozen? ⟨w.heap.size + 1, 1, none⟩ = false := frz hf ?za ?zb ?zc; (case za => simp [go_sem]); (case zb => simp); (case zc => (intro h; have h' : w.heap.size + 1 = w.heap.size + 1 + 1 := h; omega)); have z2 : w2.cell? ⟨w.heap.size + 1, 2, none⟩ = some (.int .i64 0) := hf.cell ?za ?zb; (case za => simp [go_sem]); (case zb => (intro h; have h' : w.heap.size + 1 = w.heap.size + 1 + 1 := h; omega)); have y2 : w2.frozen? ⟨w.heap.size + 1, 2, none⟩ = false := frz hf ?za ?zb ?zc; (case za => simp [go_sem]); (case zb => simp); (case zc => (intro h; have h' : w.heap.size + 1 = w.heap.size + 1 + 1 := h; omega)); have HFF := Lib.hid hf; clear hf)
  refine leaves_cons (f := 74) (args := #[.pointer (some ⟨w.heap.size + 1, 0, none⟩)]) (by simp) (by simp [go_sem]) ?_
  refine (find1_idle ⟨w.heap.size + 1, 0, none⟩ _).mono ?_
  rintro e u' w'' ⟨rfl, rfl, rfl⟩
  simp [Leaves, settle, results, Tryd.results43, go_sem, *]
  have hW : Fr (fun b => w.heap.size ≤ b) w w2 := ((((Fr.refl _ w).alloc _).alloc _).alloc _).trans HFF.out (fun i hi => .inr (by have h' : i = w.heap.size + 1 + 1 := hi; omega))
  exact (((hW.setCell (p := ⟨w.heap.size + 1, 0, none⟩) (.inl (Nat.le_succ _)) _).setCell (p := ⟨w.heap.size + 1, 1, none⟩) (.inl (Nat.le_succ _)) _).setCell (p := ⟨w.heap.size + 1, 2, none⟩) (.inl (Nat.le_succ _)) _).below (fun b hb => hb) (Nat.le_refl _)
set_option maxRecDepth 100000 in
theorem check_ok (G : UnFine U) (hs : Row F w (.slice Av U.sizes.length cv) U.sizes.length 1 (numV U.sizes)) (hr : RdBlocks F w (.slice Ab U.blocks.length cb) U.blocks) (hF : ∀ g, F g → g < w.heap.size) (V : Env w) :
    Calls Tryd.prog 18 #[unV U Av cv Ab cb] w fun x w' => x = .returned (.int .i64 0) ∧ Below w.heap.size w w' := by
  have hfr : Fr (fun _ => False) w (w.alloc (.cells #[.slice Av U.sizes.length cv, .int .i64 U.params, .int .i64 U.regs, .int .i64 U.code, .int .i64 U.spill, .slice Ab U.blocks.length cb] 25)) := (Fr.refl _ w).alloc _
  have HK := Lib.hid (find_ok G (hs.fr hfr (fun _ _ => not_false)) (hr.fr hfr (fun _ _ => not_false)) (fun g hg => Nat.lt_of_lt_of_le (hF g hg) hfr.size) (V.fr hfr not_false))
  clear G hs hr hF V hfr
  have hfl := fun w : World => fault_e 0 0 0 w
  unfold unV at *
  go_enter Tryd.func18, Tryd.ntmps18
  go_wp2_with (go_at_call 43; refine HK.out.mono ?_; rintro x w2 ⟨rfl, hb⟩)
  go_ret
  exact ⟨rfl, ((Below.refl _ w).alloc (Nat.le_refl _) _).trans (hb.mono (by simp))⟩
end Go.Proofs.YtfkjkdoloamakaaDoor
