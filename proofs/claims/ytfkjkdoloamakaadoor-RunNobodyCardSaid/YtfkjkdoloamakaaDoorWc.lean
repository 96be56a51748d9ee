/- What the closures of plain and divided compute, and Math of package word. -/
import Derived.Test.YtfkjkdoloamakaaDoorWb
import Derived.Lib.Hide
namespace Go.Proofs.YtfkjkdoloamakaaDoor
open Go.RowKit

/-- a call of the function g enters it -/
def Ent (g : Nat) : Prop := ∀ (args : Array Value) (w : World), (callFunc g args).run Tryd.prog w = .ok (.enter g args) w
theorem ent_of {f : FuncId} {fn : Func} {c : Code} (hf : Tryd.prog.funcs[f]? = some fn) (hname : (fn.name == "runtime.NumGoroutine") = false) (hb : fn.body = some c) : Ent f := by
  intro args w
  have h1 : fn.name ≠ "runtime.NumGoroutine" := by simpa using hname
  simp [callFunc, hf, h1, hb, mark]

theorem plain1_any (g : Nat) (hent : Ent g) (a b r : Int) (p : Addr) (w : World) (hp : w.cell? p = some (.func (.func g) #[] #[]))
    (hg : ∀ w : World, Calls Tryd.prog g #[.int .i64 a, .int .i64 b] w fun e w' => e = .returned (.int .i64 r) ∧ w = w') :
    Calls Tryd.prog 136 #[.int .i64 a, .int .i64 b, .pointer (some p)] w fun e w' => e = .returned (.tuple #[.int .i64 r, .int .i64 0]) ∧ w = w' := by
  unfold Ent at hent
  have HG := Lib.hid hg
  clear hg
  go_enter Tryd.func136, Tryd.ntmps136
  go_wp2_with (refine (HG.out _).mono ?_; rintro e w' ⟨rfl, rfl⟩)
  go_ret2
  exact ⟨rfl, rfl⟩
theorem one_any (g : Nat) (hent : Ent g) (r : Int) (w : World)
    (hg : ∀ w : World, Calls Tryd.prog g #[.int .i64 (-1), .int .i64 1] w fun e w' => e = .returned (.int .i64 r) ∧ w = w') :
    Calls Tryd.prog 138 #[.func (.func g) #[] #[]] w fun e w' => e = .returned (.int .i64 r) ∧ w = w' := by
  unfold Ent at hent
  have HG := Lib.hid hg
  clear hg
  go_enter Tryd.func138, Tryd.ntmps138
  go_wp2_with (refine (HG.out _).mono ?_; rintro e w' ⟨rfl, rfl⟩)
  go_ret
  exact ⟨rfl, rfl⟩
theorem divided1_zero (a : Int) (p : Addr) (w : World) :
    Calls Tryd.prog 137 #[.int .i64 a, .int .i64 0, .pointer (some p)] w fun e w' => e = .returned (.tuple #[.int .i64 0, .int .i64 (-2)]) ∧ w = w' := by
  go_enter Tryd.func137, Tryd.ntmps137
  go_wp2
  go_ret2
  exact ⟨rfl, rfl⟩
theorem divided1_some (g : Nat) (hent : Ent g) (a b r : Int) (h0 : b ≠ 0) (h1 : b ≠ -1) (p : Addr) (w : World) (hp : w.cell? p = some (.func (.func g) #[] #[]))
    (hg : ∀ w : World, Calls Tryd.prog g #[.int .i64 a, .int .i64 b] w fun e w' => e = .returned (.int .i64 r) ∧ w = w') :
    Calls Tryd.prog 137 #[.int .i64 a, .int .i64 b, .pointer (some p)] w fun e w' => e = .returned (.tuple #[.int .i64 r, .int .i64 0]) ∧ w = w' := by
  unfold Ent at hent
  have HG := Lib.hid hg
  clear hg
  go_enter Tryd.func137, Tryd.ntmps137
  go_wp2_with (refine (HG.out _).mono ?_; rintro e w' ⟨rfl, rfl⟩)
  go_ret2
  exact ⟨rfl, rfl⟩
theorem divided1_neg (g : Nat) (hent : Ent g) (a r s : Int) (p : Addr) (w : World) (hp : w.cell? p = some (.func (.func g) #[] #[]))
    (hg : ∀ w : World, Calls Tryd.prog g #[.int .i64 a, .int .i64 1] w fun e w' => e = .returned (.int .i64 r) ∧ w = w')
    (hf : ∀ w : World, Calls Tryd.prog g #[.int .i64 (-1), .int .i64 1] w fun e w' => e = .returned (.int .i64 s) ∧ w = w') :
    Calls Tryd.prog 137 #[.int .i64 a, .int .i64 (-1), .pointer (some p)] w fun e w' => e = .returned (.tuple #[.int .i64 (wrap64 (r * s)), .int .i64 0]) ∧ ∃ n, w' = w.drewN n := by
  unfold Ent at hent
  have HG := Lib.hid hg
  have HF := Lib.hid hf
  have HE := Lib.hid hent
  clear hg hf
  go_enter Tryd.func137, Tryd.ntmps137
  go_wp2_with (fail)
  go_quiet ((first | (exact Calls.quiet_of_same ((HG.out _).mono fun e w' ⟨h, k⟩ => ⟨h, k.symm⟩)) | (go_at_call 138; exact Calls.quiet_of_same ((one_any _ HE.out _ _ HF.out).mono fun e w' ⟨h, k⟩ => ⟨h, k.symm⟩))))
  go_wp2
  go_ret2
  exact ⟨rfl, ⟨_, rfl⟩⟩
end Go.Proofs.YtfkjkdoloamakaaDoor
