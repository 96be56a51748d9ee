/- What late and Formed of package word compute. -/
import Derived.Test.YtfkjkdoloamakaaDoorWd
import Derived.Deep.RegionHeld3
namespace Go.Proofs.YtfkjkdoloamakaaDoor
open Go.RowKit

/-- the kind that traps, for one that leaves poison instead -/
def lateK (k : Int) : Int := if k = 23 then 14 else if k = 24 then 15 else k
def lateB (k : Int) : Bool := decide (k = 23 ∨ k = 24)

theorem ret_ib {a b : Int} {s t : Bool} (h : a = b) (h2 : s = t) : Ending.returned (.tuple #[.int .i64 a, .bool s]) = Ending.returned (.tuple #[.int .i64 b, .bool t]) := by rw [h, h2]
theorem late_any (k : Int) (w : World) : Calls Tryd.prog 115 #[.int .i64 k] w fun e w' => e = .returned (.tuple #[.int .i64 (lateK k), .bool (lateB k)]) ∧ w = w' := by
  by_cases h1 : k = 23
  · subst h1
    go_enter Tryd.func115, Tryd.ntmps115
    go_wp2
    go_ret2
    exact ⟨rfl, rfl⟩
  · by_cases h2 : k = 24
    · subst h2
      go_enter Tryd.func115, Tryd.ntmps115
      go_wp2
      go_ret2
      exact ⟨rfl, rfl⟩
    · go_enter Tryd.func115, Tryd.ntmps115
      go_wp2
      go_ret2
      exact ⟨ret_ib (by simp [lateK, h1, h2]) (by simp [lateB, h1, h2]), rfl⟩

/-- a value: its number and its poison -/
def vl (v : Int × Int) : Value := .agg #[.int .i64 v.1, .int .i64 v.2]
def fm (v : Int × Int) : Bool := v.2 == 0 || v.1 == 0

theorem formed_any (x y : Int) (w : World) : Calls Tryd.prog 117 #[.agg #[.int .i64 x, .int .i64 y]] w fun e w' => e = .returned (.bool (fm (x, y))) ∧ w' = w.alloc (.cells #[.int .i64 x, .int .i64 y] 85) := by
  rcases Bool.eq_false_or_eq_true (y == 0) with hy | hy
  · have hf : fm (x, y) = true := by simp [fm, hy]
    rw [hf]; clear hf
    obtain rfl : y = 0 := by simpa using hy
    go_enter Tryd.func117, Tryd.ntmps117
    go_wp2
    go_ret
    exact ⟨rfl, rfl⟩
  · have hf : fm (x, y) = (x == 0) := by simp [fm, hy]
    rw [hf]; clear hf
    go_enter Tryd.func117, Tryd.ntmps117
    go_wp2
    go_ret
    exact ⟨by simp, rfl⟩
end Go.Proofs.YtfkjkdoloamakaaDoor
