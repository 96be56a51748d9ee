/- What both of package word leaves of two values. -/
import Derived.Test.YtfkjkdoloamakaaDoorMa
import Derived.Deep.RegionHeld3
namespace Go.Proofs.YtfkjkdoloamakaaDoor
open Go.RowKit

theorem bcell {W w1 : World} (hb : Below W.heap.size W w1) : (∀ b o, b < W.heap.size → w1.cell? ⟨b, o, none⟩ = W.cell? ⟨b, o, none⟩) ∧ (∀ b o, b < W.heap.size → w1.frozen? ⟨b, o, none⟩ = W.frozen? ⟨b, o, none⟩) :=
  ⟨fun b o h => hb.cell (p := ⟨b, o, none⟩) h, fun b o h => hb.frozen (p := ⟨b, o, none⟩) h⟩

theorem late_is (k q : Int) (s : Bool) (h : lateK k = q) (h2 : lateB k = s) (w : World) : Calls Tryd.prog 115 #[.int .i64 k] w fun e w' => e = .returned (.tuple #[.int .i64 q, .bool s]) ∧ w = w' := by
  rw [← h, ← h2]; exact late_any k w

theorem both_plain (k q x y n : Int) (s : Bool) (i : Nat) (hl : lateK k = q) (hs : lateB k = s) (h : tb q = some (136, i)) (hin : Inner 136 i x y n 0) (hd : q ≠ 14) (_hd2 : q ≠ 15) (w : World) :
    Calls Tryd.prog 118 #[.int .i64 k, .agg #[.int .i64 x, .int .i64 0], .agg #[.int .i64 y, .int .i64 0]] w fun e w' => e = .returned (.tuple #[.agg #[.int .i64 n, .int .i64 0], .int .i64 0]) ∧ Below w.heap.size w w' := by
  have HI := Lib.hid hin
  have H := Lib.hid h
  have HL := Lib.hid hl
  have HS := Lib.hid hs
  have hef := eql_fn
  clear hin h hl hs
  go_enter Tryd.func118, Tryd.ntmps118
  go_wp2_with (go_at_call 115; refine (late_is _ _ _ HL.out HS.out _).mono ?_; rintro e w' ⟨rfl, rfl⟩)
  go_region_held3 (fun w' => w'.cell? ⟨w.heap.size, 0, none⟩ = some (.int .i64 x) ∧ w'.cell? ⟨w.heap.size + 1, 0, none⟩ = some (.int .i64 y)) (go_keep)
    (first | (go_at_call 116; refine (table_plain _ _ H.out _).mono ?_; rintro e w' ⟨rfl, rfl⟩) | (go_at_call 136; refine (HI.out _ _ (by simp [go_sem])).mono ?_; rintro e w' ⟨rfl, m, rfl⟩))
  go_wp2
  go_returns
  refine ⟨rfl, ?_⟩
  repeat' (first | (with_reducible exact Below.refl _ _) | (with_reducible refine drewN_below ?_ _) | (with_reducible refine Below.alloc ?_ ?_ _) | (with_reducible refine Below.setCell ?_ ?_ _) | go_size)

theorem both_div (k q x y n : Int) (s : Bool) (i : Nat) (hl : lateK k = q) (hs : lateB k = s) (h : tb q = some (137, i)) (hin : Inner 137 i x y n 0) (hd : q = 14 ∨ q = 15) (w : World) :
    Calls Tryd.prog 118 #[.int .i64 k, .agg #[.int .i64 x, .int .i64 0], .agg #[.int .i64 y, .int .i64 0]] w fun e w' => e = .returned (.tuple #[.agg #[.int .i64 n, .int .i64 0], .int .i64 0]) ∧ Below w.heap.size w w' := by
  have HI := Lib.hid hin
  have H := Lib.hid h
  have HL := Lib.hid hl
  have HS := Lib.hid hs
  have hef := eql_fn
  clear hin h hl hs
  rcases hd with rfl | rfl
  all_goals
    go_enter Tryd.func118, Tryd.ntmps118
    go_wp2_with (go_at_call 115; refine (late_is _ _ _ HL.out HS.out _).mono ?_; rintro e w' ⟨rfl, rfl⟩)
    go_region_held3 (fun w' => w'.cell? ⟨w.heap.size, 0, none⟩ = some (.int .i64 x) ∧ w'.cell? ⟨w.heap.size + 1, 0, none⟩ = some (.int .i64 y)) (go_keep)
      (first | (go_at_call 116; refine (table_divided _ _ H.out _).mono ?_; rintro e w' ⟨rfl, rfl⟩) | (go_at_call 137; refine (HI.out _ _ (by simp [go_sem])).mono ?_; rintro e w' ⟨rfl, m, rfl⟩))
    go_wp2
    go_returns
    refine ⟨rfl, ?_⟩
    repeat' (first | (with_reducible exact Below.refl _ _) | (with_reducible refine drewN_below ?_ _) | (with_reducible refine Below.alloc ?_ ?_ _) | (with_reducible refine Below.setCell ?_ ?_ _) | go_size)

theorem both_trap (k q x y n t : Int) (i : Nat) (hl : lateK k = q) (hs : lateB k = false) (h : tb q = some (137, i)) (hin : Inner 137 i x y n t) (hd : q = 14 ∨ q = 15) (ht : t ≠ 0) (w : World) :
    Calls Tryd.prog 118 #[.int .i64 k, .agg #[.int .i64 x, .int .i64 0], .agg #[.int .i64 y, .int .i64 0]] w fun e w' => e = .returned (.tuple #[.agg #[.int .i64 0, .int .i64 0], .int .i64 t]) ∧ Below w.heap.size w w' := by
  have HI := Lib.hid hin
  have H := Lib.hid h
  have HL := Lib.hid hl
  have HS := Lib.hid hs
  have hef := eql_fn
  clear hin h hl hs
  rcases hd with rfl | rfl
  all_goals
    go_enter Tryd.func118, Tryd.ntmps118
    go_wp2_with (go_at_call 115; refine (late_is _ _ _ HL.out HS.out _).mono ?_; rintro e w' ⟨rfl, rfl⟩)
    go_region_held3 (fun w' => w'.cell? ⟨w.heap.size, 0, none⟩ = some (.int .i64 x) ∧ w'.cell? ⟨w.heap.size + 1, 0, none⟩ = some (.int .i64 y)) (go_keep)
      (first | (go_at_call 116; refine (table_divided _ _ H.out _).mono ?_; rintro e w' ⟨rfl, rfl⟩) | (go_at_call 137; refine (HI.out _ _ (by simp [go_sem])).mono ?_; rintro e w' ⟨rfl, m, rfl⟩))
    go_wp2
    go_returns
    refine ⟨rfl, ?_⟩
    repeat' (first | (with_reducible exact Below.refl _ _) | (with_reducible refine drewN_below ?_ _) | (with_reducible refine Below.alloc ?_ ?_ _) | (with_reducible refine Below.setCell ?_ ?_ _) | go_size)

theorem both_late (k q x y n t : Int) (i : Nat) (hl : lateK k = q) (hs : lateB k = true) (h : tb q = some (137, i)) (hin : Inner 137 i x y n t) (hd : q = 14 ∨ q = 15) (ht : t ≠ 0) (w : World) :
    Calls Tryd.prog 118 #[.int .i64 k, .agg #[.int .i64 x, .int .i64 0], .agg #[.int .i64 y, .int .i64 0]] w fun e w' => e = .returned (.tuple #[.agg #[.int .i64 n, .int .i64 t], .int .i64 0]) ∧ Below w.heap.size w w' := by
  have HI := Lib.hid hin
  have H := Lib.hid h
  have HL := Lib.hid hl
  have HS := Lib.hid hs
  have hef := eql_fn
  clear hin h hl hs
  rcases hd with rfl | rfl
  all_goals
    go_enter Tryd.func118, Tryd.ntmps118
    go_wp2_with (go_at_call 115; refine (late_is _ _ _ HL.out HS.out _).mono ?_; rintro e w' ⟨rfl, rfl⟩)
    go_region_held3 (fun w' => w'.cell? ⟨w.heap.size, 0, none⟩ = some (.int .i64 x) ∧ w'.cell? ⟨w.heap.size + 1, 0, none⟩ = some (.int .i64 y)) (go_keep)
      (first | (go_at_call 116; refine (table_divided _ _ H.out _).mono ?_; rintro e w' ⟨rfl, rfl⟩) | (go_at_call 137; refine (HI.out _ _ (by simp [go_sem])).mono ?_; rintro e w' ⟨rfl, m, rfl⟩))
    go_wp2
    go_returns
    refine ⟨rfl, ?_⟩
    repeat' (first | (with_reducible exact Below.refl _ _) | (with_reducible refine drewN_below ?_ _) | (with_reducible refine Below.alloc ?_ ?_ _) | (with_reducible refine Below.setCell ?_ ?_ _) | go_size)

theorem both_bad_a_plain (k q x y p r : Int) (s : Bool) (hp : p ≠ 0) (hl : lateK k = q) (hs : lateB k = s) (hd : q ≠ 14) (hd2 : q ≠ 15) (w : World) :
    Calls Tryd.prog 118 #[.int .i64 k, .agg #[.int .i64 x, .int .i64 p], .agg #[.int .i64 y, .int .i64 r]] w fun e w' => e = .returned (.tuple #[.agg #[.int .i64 0, .int .i64 p], .int .i64 0]) ∧ Below w.heap.size w w' := by
  have HL := Lib.hid hl
  have HS := Lib.hid hs
  clear hl hs
  go_enter Tryd.func118, Tryd.ntmps118
  go_wp2_with (go_at_call 115; refine (late_is _ _ _ HL.out HS.out _).mono ?_; rintro e w' ⟨rfl, rfl⟩)
  go_wp2
  go_returns
  refine ⟨rfl, ?_⟩
  repeat' (first | (with_reducible exact Below.refl _ _) | (with_reducible refine drewN_below ?_ _) | (with_reducible refine Below.alloc ?_ ?_ _) | (with_reducible refine Below.setCell ?_ ?_ _) | go_size)

theorem both_bad_a_late (k q x y p r : Int) (hp : p ≠ 0) (hl : lateK k = q) (hs : lateB k = true) (w : World) :
    Calls Tryd.prog 118 #[.int .i64 k, .agg #[.int .i64 x, .int .i64 p], .agg #[.int .i64 y, .int .i64 r]] w fun e w' => e = .returned (.tuple #[.agg #[.int .i64 0, .int .i64 p], .int .i64 0]) ∧ Below w.heap.size w w' := by
  have HL := Lib.hid hl
  have HS := Lib.hid hs
  clear hl hs
  go_enter Tryd.func118, Tryd.ntmps118
  go_wp2_with (go_at_call 115; refine (late_is _ _ _ HL.out HS.out _).mono ?_; rintro e w' ⟨rfl, rfl⟩)
  go_wp2
  all_goals
    go_returns
    refine ⟨rfl, ?_⟩
    repeat' (first | (with_reducible exact Below.refl _ _) | (with_reducible refine drewN_below ?_ _) | (with_reducible refine Below.alloc ?_ ?_ _) | (with_reducible refine Below.setCell ?_ ?_ _) | go_size)

theorem both_bad_a_trap (k q x y p r : Int) (hp : p ≠ 0) (hl : lateK k = q) (hs : lateB k = false) (hd : q = 14 ∨ q = 15) (w : World) :
    Calls Tryd.prog 118 #[.int .i64 k, .agg #[.int .i64 x, .int .i64 p], .agg #[.int .i64 y, .int .i64 r]] w fun e w' => e = .returned (.tuple #[.agg #[.int .i64 0, .int .i64 0], .int .i64 p]) ∧ Below w.heap.size w w' := by
  have HL := Lib.hid hl
  have HS := Lib.hid hs
  clear hl hs
  rcases hd with rfl | rfl
  all_goals
    go_enter Tryd.func118, Tryd.ntmps118
    go_wp2_with (go_at_call 115; refine (late_is _ _ _ HL.out HS.out _).mono ?_; rintro e w' ⟨rfl, rfl⟩)
    go_wp2
    go_returns
    refine ⟨rfl, ?_⟩
    repeat' (first | (with_reducible exact Below.refl _ _) | (with_reducible refine drewN_below ?_ _) | (with_reducible refine Below.alloc ?_ ?_ _) | (with_reducible refine Below.setCell ?_ ?_ _) | go_size)

theorem both_bad_b_plain (k q x y r : Int) (s : Bool) (hr : r ≠ 0) (hl : lateK k = q) (hs : lateB k = s) (hd : q ≠ 14) (hd2 : q ≠ 15) (w : World) :
    Calls Tryd.prog 118 #[.int .i64 k, .agg #[.int .i64 x, .int .i64 0], .agg #[.int .i64 y, .int .i64 r]] w fun e w' => e = .returned (.tuple #[.agg #[.int .i64 0, .int .i64 r], .int .i64 0]) ∧ Below w.heap.size w w' := by
  have HL := Lib.hid hl
  have HS := Lib.hid hs
  clear hl hs
  go_enter Tryd.func118, Tryd.ntmps118
  go_wp2_with (go_at_call 115; refine (late_is _ _ _ HL.out HS.out _).mono ?_; rintro e w' ⟨rfl, rfl⟩)
  go_wp2
  go_returns
  refine ⟨rfl, ?_⟩
  repeat' (first | (with_reducible exact Below.refl _ _) | (with_reducible refine drewN_below ?_ _) | (with_reducible refine Below.alloc ?_ ?_ _) | (with_reducible refine Below.setCell ?_ ?_ _) | go_size)

theorem both_bad_b_late (k q x y r : Int) (hr : r ≠ 0) (hl : lateK k = q) (hs : lateB k = true) (w : World) :
    Calls Tryd.prog 118 #[.int .i64 k, .agg #[.int .i64 x, .int .i64 0], .agg #[.int .i64 y, .int .i64 r]] w fun e w' => e = .returned (.tuple #[.agg #[.int .i64 0, .int .i64 r], .int .i64 0]) ∧ Below w.heap.size w w' := by
  have HL := Lib.hid hl
  have HS := Lib.hid hs
  clear hl hs
  go_enter Tryd.func118, Tryd.ntmps118
  go_wp2_with (go_at_call 115; refine (late_is _ _ _ HL.out HS.out _).mono ?_; rintro e w' ⟨rfl, rfl⟩)
  go_wp2
  all_goals
    go_returns
    refine ⟨rfl, ?_⟩
    repeat' (first | (with_reducible exact Below.refl _ _) | (with_reducible refine drewN_below ?_ _) | (with_reducible refine Below.alloc ?_ ?_ _) | (with_reducible refine Below.setCell ?_ ?_ _) | go_size)

theorem both_bad_b_trap (k q x y r : Int) (hr : r ≠ 0) (hl : lateK k = q) (hs : lateB k = false) (hd : q = 14 ∨ q = 15) (w : World) :
    Calls Tryd.prog 118 #[.int .i64 k, .agg #[.int .i64 x, .int .i64 0], .agg #[.int .i64 y, .int .i64 r]] w fun e w' => e = .returned (.tuple #[.agg #[.int .i64 0, .int .i64 0], .int .i64 r]) ∧ Below w.heap.size w w' := by
  have HL := Lib.hid hl
  have HS := Lib.hid hs
  clear hl hs
  rcases hd with rfl | rfl
  all_goals
    go_enter Tryd.func118, Tryd.ntmps118
    go_wp2_with (go_at_call 115; refine (late_is _ _ _ HL.out HS.out _).mono ?_; rintro e w' ⟨rfl, rfl⟩)
    go_wp2
    go_returns
    refine ⟨rfl, ?_⟩
    repeat' (first | (with_reducible exact Below.refl _ _) | (with_reducible refine drewN_below ?_ _) | (with_reducible refine Below.alloc ?_ ?_ _) | (with_reducible refine Below.setCell ?_ ?_ _) | go_size)

end Go.Proofs.YtfkjkdoloamakaaDoor
