/- What the specification's Has and Do compute: the same as Do of package word, where the kind is one of Do's and the values are formed. -/
import Derived.Test.YtfkjkdoloamakaaDoorMb
import Derived.Test.YtfkjkdoloamakaaDoorWe
namespace Go.Proofs.YtfkjkdoloamakaaDoor
open Go.RowKit

theorem has_any (k : Int) (w : World) : Calls Tryd.prog 82 #[.int .i64 k] w fun e w' => e = .returned (.bool (known k)) ∧ w = w' := by
  have hk : known k = decide (1 ≤ k ∧ k ≤ 15 ∨ k = 23 ∨ k = 24) := by
    by_cases h23 : k = 23
    · subst h23; decide
    · by_cases h24 : k = 24
      · subst h24; decide
      · have el : lateK k = k := by simp only [lateK, if_neg h23, if_neg h24]
        rw [Bool.eq_iff_iff]
        simp only [known, two2, el, has2, Bool.or_eq_true, decide_eq_true_eq]
        omega
  rw [hk]; clear hk
  by_cases h1 : 1 ≤ k ∧ k ≤ 15
  · have e : decide (1 ≤ k ∧ k ≤ 15 ∨ k = 23 ∨ k = 24) = true := by simp [h1]
    rw [e]; clear e
    obtain ⟨h1, h2⟩ := h1
    go_enter Tryd.func82, Tryd.ntmps82
    go_wp2
    go_ret
    exact ⟨rfl, rfl⟩
  · by_cases h2 : k = 23
    · subst h2
      go_enter Tryd.func82, Tryd.ntmps82
      go_wp2
      go_ret
      exact ⟨rfl, rfl⟩
    · by_cases h3 : k = 24
      · subst h3
        go_enter Tryd.func82, Tryd.ntmps82
        go_wp2
        go_ret
        exact ⟨rfl, rfl⟩
      · have e : decide (1 ≤ k ∧ k ≤ 15 ∨ k = 23 ∨ k = 24) = false := by simp [h2, h3]; omega
        rw [e]; clear e
        have d1 : (k == 23) = false := by simp [h2]
        have d2 : (k == 24) = false := by simp [h3]
        clear h2 h3
        by_cases h4 : 1 ≤ k
        · have h5 : 15 < k := by omega
          clear h1
          go_enter Tryd.func82, Tryd.ntmps82
          go_wp2
          go_ret
          exact ⟨by simp; omega, rfl⟩
        · have h5 : k < 1 := by omega
          clear h1 h4
          go_enter Tryd.func82, Tryd.ntmps82
          go_wp2
          go_ret
          exact ⟨rfl, rfl⟩

theorem rmath_is (k a b n t : Int) (hn : mN k a b = n) (ht : mT k b = t) (w : World) :
    Calls Tryd.prog 102 #[.int .i64 k, .int .i64 a, .int .i64 b] w fun e w' => e = .returned (.tuple #[.int .i64 n, .int .i64 t, .bool (has2 k)]) ∧ w = w' := by
  rw [← hn, ← ht]; exact rmath_any k a b w

theorem rdo_const (d A B C n g x p y q z r : Int) (w : World) :
    Calls Tryd.prog 83 #[.agg #[.int .i64 1, .int .i64 d, .int .i64 A, .int .i64 B, .int .i64 C, .int .i64 n, .int .i64 g], .agg #[.int .i64 x, .int .i64 p], .agg #[.int .i64 y, .int .i64 q], .agg #[.int .i64 z, .int .i64 r]] w fun e w' => e = .returned (.tuple #[.agg #[.int .i64 n, .int .i64 0], .int .i64 0]) ∧ Below w.heap.size w w' := by
  go_enter Tryd.func83, Tryd.ntmps83
  go_wp2
  go_returns
  refine ⟨rfl, ?_⟩
  repeat' (first | (with_reducible exact Below.refl _ _) | (with_reducible refine drewN_below ?_ _) | (with_reducible refine Below.alloc ?_ ?_ _) | (with_reducible refine Below.setCell ?_ ?_ _) | go_size)

theorem rdo_move (d A B C n g x p y q z r : Int) (w : World) :
    Calls Tryd.prog 83 #[.agg #[.int .i64 2, .int .i64 d, .int .i64 A, .int .i64 B, .int .i64 C, .int .i64 n, .int .i64 g], .agg #[.int .i64 x, .int .i64 p], .agg #[.int .i64 y, .int .i64 q], .agg #[.int .i64 z, .int .i64 r]] w fun e w' => e = .returned (.tuple #[.agg #[.int .i64 x, .int .i64 p], .int .i64 0]) ∧ Below w.heap.size w w' := by
  go_enter Tryd.func83, Tryd.ntmps83
  go_wp2
  go_returns
  refine ⟨rfl, ?_⟩
  repeat' (first | (with_reducible exact Below.refl _ _) | (with_reducible refine drewN_below ?_ _) | (with_reducible refine Below.alloc ?_ ?_ _) | (with_reducible refine Below.setCell ?_ ?_ _) | go_size)

theorem rdo_pick_bad (d A B C n g x p y q z r : Int) (hp : p ≠ 0) (w : World) :
    Calls Tryd.prog 83 #[.agg #[.int .i64 12, .int .i64 d, .int .i64 A, .int .i64 B, .int .i64 C, .int .i64 n, .int .i64 g], .agg #[.int .i64 x, .int .i64 p], .agg #[.int .i64 y, .int .i64 q], .agg #[.int .i64 z, .int .i64 r]] w fun e w' => e = .returned (.tuple #[.agg #[.int .i64 0, .int .i64 p], .int .i64 0]) ∧ Below w.heap.size w w' := by
  go_enter Tryd.func83, Tryd.ntmps83
  go_wp2
  go_returns
  refine ⟨rfl, ?_⟩
  repeat' (first | (with_reducible exact Below.refl _ _) | (with_reducible refine drewN_below ?_ _) | (with_reducible refine Below.alloc ?_ ?_ _) | (with_reducible refine Below.setCell ?_ ?_ _) | go_size)

theorem rdo_pick_yes (d A B C n g x y q z r : Int) (hx : x ≠ 0) (w : World) :
    Calls Tryd.prog 83 #[.agg #[.int .i64 12, .int .i64 d, .int .i64 A, .int .i64 B, .int .i64 C, .int .i64 n, .int .i64 g], .agg #[.int .i64 x, .int .i64 0], .agg #[.int .i64 y, .int .i64 q], .agg #[.int .i64 z, .int .i64 r]] w fun e w' => e = .returned (.tuple #[.agg #[.int .i64 y, .int .i64 q], .int .i64 0]) ∧ Below w.heap.size w w' := by
  go_enter Tryd.func83, Tryd.ntmps83
  go_wp2
  go_returns
  refine ⟨rfl, ?_⟩
  repeat' (first | (with_reducible exact Below.refl _ _) | (with_reducible refine drewN_below ?_ _) | (with_reducible refine Below.alloc ?_ ?_ _) | (with_reducible refine Below.setCell ?_ ?_ _) | go_size)

theorem rdo_pick_no (d A B C n g y q z r : Int) (w : World) :
    Calls Tryd.prog 83 #[.agg #[.int .i64 12, .int .i64 d, .int .i64 A, .int .i64 B, .int .i64 C, .int .i64 n, .int .i64 g], .agg #[.int .i64 0, .int .i64 0], .agg #[.int .i64 y, .int .i64 q], .agg #[.int .i64 z, .int .i64 r]] w fun e w' => e = .returned (.tuple #[.agg #[.int .i64 z, .int .i64 r], .int .i64 0]) ∧ Below w.heap.size w w' := by
  go_enter Tryd.func83, Tryd.ntmps83
  go_wp2
  go_returns
  refine ⟨rfl, ?_⟩
  repeat' (first | (with_reducible exact Below.refl _ _) | (with_reducible refine drewN_below ?_ _) | (with_reducible refine Below.alloc ?_ ?_ _) | (with_reducible refine Below.setCell ?_ ?_ _) | go_size)

theorem rdo_plain_a (k : Int) (d A B C n g x p y q z r : Int) (h1 : k ≠ 1) (h2 : k ≠ 2) (h12 : k ≠ 12) (h14 : k ≠ 14) (h15 : k ≠ 15) (h23 : k ≠ 23) (h24 : k ≠ 24) (hp : p ≠ 0) (w : World) :
    Calls Tryd.prog 83 #[.agg #[.int .i64 k, .int .i64 d, .int .i64 A, .int .i64 B, .int .i64 C, .int .i64 n, .int .i64 g], .agg #[.int .i64 x, .int .i64 p], .agg #[.int .i64 y, .int .i64 q], .agg #[.int .i64 z, .int .i64 r]] w fun e w' => e = .returned (.tuple #[.agg #[.int .i64 0, .int .i64 p], .int .i64 0]) ∧ Below w.heap.size w w' := by
  have d1 : (k == 1) = false := by simp [h1]
  have d2 : (k == 2) = false := by simp [h2]
  have d12 : (k == 12) = false := by simp [h12]
  have d14 : (k == 14) = false := by simp [h14]
  have d15 : (k == 15) = false := by simp [h15]
  have d23 : (k == 23) = false := by simp [h23]
  have d24 : (k == 24) = false := by simp [h24]
  clear h1 h2 h12 h14 h15 h23 h24
  go_enter Tryd.func83, Tryd.ntmps83
  go_wp2
  go_returns
  refine ⟨rfl, ?_⟩
  repeat' (first | (with_reducible exact Below.refl _ _) | (with_reducible refine drewN_below ?_ _) | (with_reducible refine Below.alloc ?_ ?_ _) | (with_reducible refine Below.setCell ?_ ?_ _) | go_size)

theorem rdo_plain_b (k : Int) (d A B C n g x y q z r : Int) (h1 : k ≠ 1) (h2 : k ≠ 2) (h12 : k ≠ 12) (h14 : k ≠ 14) (h15 : k ≠ 15) (h23 : k ≠ 23) (h24 : k ≠ 24) (hq : q ≠ 0) (w : World) :
    Calls Tryd.prog 83 #[.agg #[.int .i64 k, .int .i64 d, .int .i64 A, .int .i64 B, .int .i64 C, .int .i64 n, .int .i64 g], .agg #[.int .i64 x, .int .i64 0], .agg #[.int .i64 y, .int .i64 q], .agg #[.int .i64 z, .int .i64 r]] w fun e w' => e = .returned (.tuple #[.agg #[.int .i64 0, .int .i64 q], .int .i64 0]) ∧ Below w.heap.size w w' := by
  have d1 : (k == 1) = false := by simp [h1]
  have d2 : (k == 2) = false := by simp [h2]
  have d12 : (k == 12) = false := by simp [h12]
  have d14 : (k == 14) = false := by simp [h14]
  have d15 : (k == 15) = false := by simp [h15]
  have d23 : (k == 23) = false := by simp [h23]
  have d24 : (k == 24) = false := by simp [h24]
  clear h1 h2 h12 h14 h15 h23 h24
  go_enter Tryd.func83, Tryd.ntmps83
  go_wp2
  go_returns
  refine ⟨rfl, ?_⟩
  repeat' (first | (with_reducible exact Below.refl _ _) | (with_reducible refine drewN_below ?_ _) | (with_reducible refine Below.alloc ?_ ?_ _) | (with_reducible refine Below.setCell ?_ ?_ _) | go_size)

theorem rdo_plain (k : Int) (d A B C n g x y z r : Int) (h1 : k ≠ 1) (h2 : k ≠ 2) (h12 : k ≠ 12) (h14 : k ≠ 14) (h15 : k ≠ 15) (h23 : k ≠ 23) (h24 : k ≠ 24) (m : Int) (hn : mN k x y = m) (ht : mT k y = 0) (w : World) :
    Calls Tryd.prog 83 #[.agg #[.int .i64 k, .int .i64 d, .int .i64 A, .int .i64 B, .int .i64 C, .int .i64 n, .int .i64 g], .agg #[.int .i64 x, .int .i64 0], .agg #[.int .i64 y, .int .i64 0], .agg #[.int .i64 z, .int .i64 r]] w fun e w' => e = .returned (.tuple #[.agg #[.int .i64 m, .int .i64 0], .int .i64 0]) ∧ Below w.heap.size w w' := by
  have d1 : (k == 1) = false := by simp [h1]
  have d2 : (k == 2) = false := by simp [h2]
  have d12 : (k == 12) = false := by simp [h12]
  have d14 : (k == 14) = false := by simp [h14]
  have d15 : (k == 15) = false := by simp [h15]
  have d23 : (k == 23) = false := by simp [h23]
  have d24 : (k == 24) = false := by simp [h24]
  clear h1 h2 h12 h14 h15 h23 h24
  have HN := Lib.hid hn
  have HT := Lib.hid ht
  clear hn ht
  go_enter Tryd.func83, Tryd.ntmps83
  go_wp2_with (go_at_call 102; refine (rmath_is _ _ _ _ _ HN.out HT.out _).mono ?_; rintro e w' ⟨rfl, rfl⟩)
  go_returns
  refine ⟨rfl, ?_⟩
  repeat' (first | (with_reducible exact Below.refl _ _) | (with_reducible refine drewN_below ?_ _) | (with_reducible refine Below.alloc ?_ ?_ _) | (with_reducible refine Below.setCell ?_ ?_ _) | go_size)

theorem rdo_14_a (d A B C n g x p y q z r : Int) (hp : p ≠ 0) (w : World) :
    Calls Tryd.prog 83 #[.agg #[.int .i64 14, .int .i64 d, .int .i64 A, .int .i64 B, .int .i64 C, .int .i64 n, .int .i64 g], .agg #[.int .i64 x, .int .i64 p], .agg #[.int .i64 y, .int .i64 q], .agg #[.int .i64 z, .int .i64 r]] w fun e w' => e = .returned (.tuple #[.agg #[.int .i64 0, .int .i64 0], .int .i64 p]) ∧ Below w.heap.size w w' := by
  go_enter Tryd.func83, Tryd.ntmps83
  go_wp2
  go_returns
  refine ⟨rfl, ?_⟩
  repeat' (first | (with_reducible exact Below.refl _ _) | (with_reducible refine drewN_below ?_ _) | (with_reducible refine Below.alloc ?_ ?_ _) | (with_reducible refine Below.setCell ?_ ?_ _) | go_size)

theorem rdo_14_b (d A B C n g x y q z r : Int) (hq : q ≠ 0) (w : World) :
    Calls Tryd.prog 83 #[.agg #[.int .i64 14, .int .i64 d, .int .i64 A, .int .i64 B, .int .i64 C, .int .i64 n, .int .i64 g], .agg #[.int .i64 x, .int .i64 0], .agg #[.int .i64 y, .int .i64 q], .agg #[.int .i64 z, .int .i64 r]] w fun e w' => e = .returned (.tuple #[.agg #[.int .i64 0, .int .i64 0], .int .i64 q]) ∧ Below w.heap.size w w' := by
  go_enter Tryd.func83, Tryd.ntmps83
  go_wp2
  go_returns
  refine ⟨rfl, ?_⟩
  repeat' (first | (with_reducible exact Below.refl _ _) | (with_reducible refine drewN_below ?_ _) | (with_reducible refine Below.alloc ?_ ?_ _) | (with_reducible refine Below.setCell ?_ ?_ _) | go_size)

theorem rdo_14_0 (d A B C n g x y z r : Int) (m : Int) (hn : mN 14 x y = m) (ht : mT 14 y = 0) (w : World) :
    Calls Tryd.prog 83 #[.agg #[.int .i64 14, .int .i64 d, .int .i64 A, .int .i64 B, .int .i64 C, .int .i64 n, .int .i64 g], .agg #[.int .i64 x, .int .i64 0], .agg #[.int .i64 y, .int .i64 0], .agg #[.int .i64 z, .int .i64 r]] w fun e w' => e = .returned (.tuple #[.agg #[.int .i64 m, .int .i64 0], .int .i64 0]) ∧ Below w.heap.size w w' := by
  have HN := Lib.hid hn
  have HT := Lib.hid ht
  clear hn ht
  go_enter Tryd.func83, Tryd.ntmps83
  go_wp2_with (go_at_call 102; refine (rmath_is _ _ _ _ _ HN.out HT.out _).mono ?_; rintro e w' ⟨rfl, rfl⟩)
  go_returns
  refine ⟨rfl, ?_⟩
  repeat' (first | (with_reducible exact Below.refl _ _) | (with_reducible refine drewN_below ?_ _) | (with_reducible refine Below.alloc ?_ ?_ _) | (with_reducible refine Below.setCell ?_ ?_ _) | go_size)

theorem rdo_14_t (d A B C n g x y z r : Int) (m t : Int) (hn : mN 14 x y = m) (ht : mT 14 y = t) (h0 : t ≠ 0) (w : World) :
    Calls Tryd.prog 83 #[.agg #[.int .i64 14, .int .i64 d, .int .i64 A, .int .i64 B, .int .i64 C, .int .i64 n, .int .i64 g], .agg #[.int .i64 x, .int .i64 0], .agg #[.int .i64 y, .int .i64 0], .agg #[.int .i64 z, .int .i64 r]] w fun e w' => e = .returned (.tuple #[.agg #[.int .i64 0, .int .i64 0], .int .i64 t]) ∧ Below w.heap.size w w' := by
  have HN := Lib.hid hn
  have HT := Lib.hid ht
  clear hn ht
  go_enter Tryd.func83, Tryd.ntmps83
  go_wp2_with (go_at_call 102; refine (rmath_is _ _ _ _ _ HN.out HT.out _).mono ?_; rintro e w' ⟨rfl, rfl⟩)
  go_returns
  refine ⟨rfl, ?_⟩
  repeat' (first | (with_reducible exact Below.refl _ _) | (with_reducible refine drewN_below ?_ _) | (with_reducible refine Below.alloc ?_ ?_ _) | (with_reducible refine Below.setCell ?_ ?_ _) | go_size)

theorem rdo_15_a (d A B C n g x p y q z r : Int) (hp : p ≠ 0) (w : World) :
    Calls Tryd.prog 83 #[.agg #[.int .i64 15, .int .i64 d, .int .i64 A, .int .i64 B, .int .i64 C, .int .i64 n, .int .i64 g], .agg #[.int .i64 x, .int .i64 p], .agg #[.int .i64 y, .int .i64 q], .agg #[.int .i64 z, .int .i64 r]] w fun e w' => e = .returned (.tuple #[.agg #[.int .i64 0, .int .i64 0], .int .i64 p]) ∧ Below w.heap.size w w' := by
  go_enter Tryd.func83, Tryd.ntmps83
  go_wp2
  go_returns
  refine ⟨rfl, ?_⟩
  repeat' (first | (with_reducible exact Below.refl _ _) | (with_reducible refine drewN_below ?_ _) | (with_reducible refine Below.alloc ?_ ?_ _) | (with_reducible refine Below.setCell ?_ ?_ _) | go_size)

theorem rdo_15_b (d A B C n g x y q z r : Int) (hq : q ≠ 0) (w : World) :
    Calls Tryd.prog 83 #[.agg #[.int .i64 15, .int .i64 d, .int .i64 A, .int .i64 B, .int .i64 C, .int .i64 n, .int .i64 g], .agg #[.int .i64 x, .int .i64 0], .agg #[.int .i64 y, .int .i64 q], .agg #[.int .i64 z, .int .i64 r]] w fun e w' => e = .returned (.tuple #[.agg #[.int .i64 0, .int .i64 0], .int .i64 q]) ∧ Below w.heap.size w w' := by
  go_enter Tryd.func83, Tryd.ntmps83
  go_wp2
  go_returns
  refine ⟨rfl, ?_⟩
  repeat' (first | (with_reducible exact Below.refl _ _) | (with_reducible refine drewN_below ?_ _) | (with_reducible refine Below.alloc ?_ ?_ _) | (with_reducible refine Below.setCell ?_ ?_ _) | go_size)

theorem rdo_15_0 (d A B C n g x y z r : Int) (m : Int) (hn : mN 15 x y = m) (ht : mT 15 y = 0) (w : World) :
    Calls Tryd.prog 83 #[.agg #[.int .i64 15, .int .i64 d, .int .i64 A, .int .i64 B, .int .i64 C, .int .i64 n, .int .i64 g], .agg #[.int .i64 x, .int .i64 0], .agg #[.int .i64 y, .int .i64 0], .agg #[.int .i64 z, .int .i64 r]] w fun e w' => e = .returned (.tuple #[.agg #[.int .i64 m, .int .i64 0], .int .i64 0]) ∧ Below w.heap.size w w' := by
  have HN := Lib.hid hn
  have HT := Lib.hid ht
  clear hn ht
  go_enter Tryd.func83, Tryd.ntmps83
  go_wp2_with (go_at_call 102; refine (rmath_is _ _ _ _ _ HN.out HT.out _).mono ?_; rintro e w' ⟨rfl, rfl⟩)
  go_returns
  refine ⟨rfl, ?_⟩
  repeat' (first | (with_reducible exact Below.refl _ _) | (with_reducible refine drewN_below ?_ _) | (with_reducible refine Below.alloc ?_ ?_ _) | (with_reducible refine Below.setCell ?_ ?_ _) | go_size)

theorem rdo_15_t (d A B C n g x y z r : Int) (m t : Int) (hn : mN 15 x y = m) (ht : mT 15 y = t) (h0 : t ≠ 0) (w : World) :
    Calls Tryd.prog 83 #[.agg #[.int .i64 15, .int .i64 d, .int .i64 A, .int .i64 B, .int .i64 C, .int .i64 n, .int .i64 g], .agg #[.int .i64 x, .int .i64 0], .agg #[.int .i64 y, .int .i64 0], .agg #[.int .i64 z, .int .i64 r]] w fun e w' => e = .returned (.tuple #[.agg #[.int .i64 0, .int .i64 0], .int .i64 t]) ∧ Below w.heap.size w w' := by
  have HN := Lib.hid hn
  have HT := Lib.hid ht
  clear hn ht
  go_enter Tryd.func83, Tryd.ntmps83
  go_wp2_with (go_at_call 102; refine (rmath_is _ _ _ _ _ HN.out HT.out _).mono ?_; rintro e w' ⟨rfl, rfl⟩)
  go_returns
  refine ⟨rfl, ?_⟩
  repeat' (first | (with_reducible exact Below.refl _ _) | (with_reducible refine drewN_below ?_ _) | (with_reducible refine Below.alloc ?_ ?_ _) | (with_reducible refine Below.setCell ?_ ?_ _) | go_size)

theorem rdo_23_a (d A B C n g x p y q z r : Int) (hp : p ≠ 0) (w : World) :
    Calls Tryd.prog 83 #[.agg #[.int .i64 23, .int .i64 d, .int .i64 A, .int .i64 B, .int .i64 C, .int .i64 n, .int .i64 g], .agg #[.int .i64 x, .int .i64 p], .agg #[.int .i64 y, .int .i64 q], .agg #[.int .i64 z, .int .i64 r]] w fun e w' => e = .returned (.tuple #[.agg #[.int .i64 0, .int .i64 p], .int .i64 0]) ∧ Below w.heap.size w w' := by
  go_enter Tryd.func83, Tryd.ntmps83
  go_wp2
  go_returns
  refine ⟨rfl, ?_⟩
  repeat' (first | (with_reducible exact Below.refl _ _) | (with_reducible refine drewN_below ?_ _) | (with_reducible refine Below.alloc ?_ ?_ _) | (with_reducible refine Below.setCell ?_ ?_ _) | go_size)

theorem rdo_23_b (d A B C n g x y q z r : Int) (hq : q ≠ 0) (w : World) :
    Calls Tryd.prog 83 #[.agg #[.int .i64 23, .int .i64 d, .int .i64 A, .int .i64 B, .int .i64 C, .int .i64 n, .int .i64 g], .agg #[.int .i64 x, .int .i64 0], .agg #[.int .i64 y, .int .i64 q], .agg #[.int .i64 z, .int .i64 r]] w fun e w' => e = .returned (.tuple #[.agg #[.int .i64 0, .int .i64 q], .int .i64 0]) ∧ Below w.heap.size w w' := by
  go_enter Tryd.func83, Tryd.ntmps83
  go_wp2
  go_returns
  refine ⟨rfl, ?_⟩
  repeat' (first | (with_reducible exact Below.refl _ _) | (with_reducible refine drewN_below ?_ _) | (with_reducible refine Below.alloc ?_ ?_ _) | (with_reducible refine Below.setCell ?_ ?_ _) | go_size)

theorem rdo_23_0 (d A B C n g x y z r : Int) (m : Int) (hn : mN 14 x y = m) (ht : mT 14 y = 0) (w : World) :
    Calls Tryd.prog 83 #[.agg #[.int .i64 23, .int .i64 d, .int .i64 A, .int .i64 B, .int .i64 C, .int .i64 n, .int .i64 g], .agg #[.int .i64 x, .int .i64 0], .agg #[.int .i64 y, .int .i64 0], .agg #[.int .i64 z, .int .i64 r]] w fun e w' => e = .returned (.tuple #[.agg #[.int .i64 m, .int .i64 0], .int .i64 0]) ∧ Below w.heap.size w w' := by
  have HN := Lib.hid hn
  have HT := Lib.hid ht
  clear hn ht
  go_enter Tryd.func83, Tryd.ntmps83
  go_wp2_with (go_at_call 102; refine (rmath_is _ _ _ _ _ HN.out HT.out _).mono ?_; rintro e w' ⟨rfl, rfl⟩)
  go_returns
  refine ⟨rfl, ?_⟩
  repeat' (first | (with_reducible exact Below.refl _ _) | (with_reducible refine drewN_below ?_ _) | (with_reducible refine Below.alloc ?_ ?_ _) | (with_reducible refine Below.setCell ?_ ?_ _) | go_size)

theorem rdo_23_t (d A B C n g x y z r : Int) (m t : Int) (hn : mN 14 x y = m) (ht : mT 14 y = t) (h0 : t ≠ 0) (w : World) :
    Calls Tryd.prog 83 #[.agg #[.int .i64 23, .int .i64 d, .int .i64 A, .int .i64 B, .int .i64 C, .int .i64 n, .int .i64 g], .agg #[.int .i64 x, .int .i64 0], .agg #[.int .i64 y, .int .i64 0], .agg #[.int .i64 z, .int .i64 r]] w fun e w' => e = .returned (.tuple #[.agg #[.int .i64 0, .int .i64 t], .int .i64 0]) ∧ Below w.heap.size w w' := by
  have HN := Lib.hid hn
  have HT := Lib.hid ht
  clear hn ht
  go_enter Tryd.func83, Tryd.ntmps83
  go_wp2_with (go_at_call 102; refine (rmath_is _ _ _ _ _ HN.out HT.out _).mono ?_; rintro e w' ⟨rfl, rfl⟩)
  go_returns
  refine ⟨rfl, ?_⟩
  repeat' (first | (with_reducible exact Below.refl _ _) | (with_reducible refine drewN_below ?_ _) | (with_reducible refine Below.alloc ?_ ?_ _) | (with_reducible refine Below.setCell ?_ ?_ _) | go_size)

theorem rdo_24_a (d A B C n g x p y q z r : Int) (hp : p ≠ 0) (w : World) :
    Calls Tryd.prog 83 #[.agg #[.int .i64 24, .int .i64 d, .int .i64 A, .int .i64 B, .int .i64 C, .int .i64 n, .int .i64 g], .agg #[.int .i64 x, .int .i64 p], .agg #[.int .i64 y, .int .i64 q], .agg #[.int .i64 z, .int .i64 r]] w fun e w' => e = .returned (.tuple #[.agg #[.int .i64 0, .int .i64 p], .int .i64 0]) ∧ Below w.heap.size w w' := by
  go_enter Tryd.func83, Tryd.ntmps83
  go_wp2
  go_returns
  refine ⟨rfl, ?_⟩
  repeat' (first | (with_reducible exact Below.refl _ _) | (with_reducible refine drewN_below ?_ _) | (with_reducible refine Below.alloc ?_ ?_ _) | (with_reducible refine Below.setCell ?_ ?_ _) | go_size)

theorem rdo_24_b (d A B C n g x y q z r : Int) (hq : q ≠ 0) (w : World) :
    Calls Tryd.prog 83 #[.agg #[.int .i64 24, .int .i64 d, .int .i64 A, .int .i64 B, .int .i64 C, .int .i64 n, .int .i64 g], .agg #[.int .i64 x, .int .i64 0], .agg #[.int .i64 y, .int .i64 q], .agg #[.int .i64 z, .int .i64 r]] w fun e w' => e = .returned (.tuple #[.agg #[.int .i64 0, .int .i64 q], .int .i64 0]) ∧ Below w.heap.size w w' := by
  go_enter Tryd.func83, Tryd.ntmps83
  go_wp2
  go_returns
  refine ⟨rfl, ?_⟩
  repeat' (first | (with_reducible exact Below.refl _ _) | (with_reducible refine drewN_below ?_ _) | (with_reducible refine Below.alloc ?_ ?_ _) | (with_reducible refine Below.setCell ?_ ?_ _) | go_size)

theorem rdo_24_0 (d A B C n g x y z r : Int) (m : Int) (hn : mN 15 x y = m) (ht : mT 15 y = 0) (w : World) :
    Calls Tryd.prog 83 #[.agg #[.int .i64 24, .int .i64 d, .int .i64 A, .int .i64 B, .int .i64 C, .int .i64 n, .int .i64 g], .agg #[.int .i64 x, .int .i64 0], .agg #[.int .i64 y, .int .i64 0], .agg #[.int .i64 z, .int .i64 r]] w fun e w' => e = .returned (.tuple #[.agg #[.int .i64 m, .int .i64 0], .int .i64 0]) ∧ Below w.heap.size w w' := by
  have HN := Lib.hid hn
  have HT := Lib.hid ht
  clear hn ht
  go_enter Tryd.func83, Tryd.ntmps83
  go_wp2_with (go_at_call 102; refine (rmath_is _ _ _ _ _ HN.out HT.out _).mono ?_; rintro e w' ⟨rfl, rfl⟩)
  go_returns
  refine ⟨rfl, ?_⟩
  repeat' (first | (with_reducible exact Below.refl _ _) | (with_reducible refine drewN_below ?_ _) | (with_reducible refine Below.alloc ?_ ?_ _) | (with_reducible refine Below.setCell ?_ ?_ _) | go_size)

theorem rdo_24_t (d A B C n g x y z r : Int) (m t : Int) (hn : mN 15 x y = m) (ht : mT 15 y = t) (h0 : t ≠ 0) (w : World) :
    Calls Tryd.prog 83 #[.agg #[.int .i64 24, .int .i64 d, .int .i64 A, .int .i64 B, .int .i64 C, .int .i64 n, .int .i64 g], .agg #[.int .i64 x, .int .i64 0], .agg #[.int .i64 y, .int .i64 0], .agg #[.int .i64 z, .int .i64 r]] w fun e w' => e = .returned (.tuple #[.agg #[.int .i64 0, .int .i64 t], .int .i64 0]) ∧ Below w.heap.size w w' := by
  have HN := Lib.hid hn
  have HT := Lib.hid ht
  clear hn ht
  go_enter Tryd.func83, Tryd.ntmps83
  go_wp2_with (go_at_call 102; refine (rmath_is _ _ _ _ _ HN.out HT.out _).mono ?_; rintro e w' ⟨rfl, rfl⟩)
  go_returns
  refine ⟨rfl, ?_⟩
  repeat' (first | (with_reducible exact Below.refl _ _) | (with_reducible refine drewN_below ?_ _) | (with_reducible refine Below.alloc ?_ ?_ _) | (with_reducible refine Below.setCell ?_ ?_ _) | go_size)

end Go.Proofs.YtfkjkdoloamakaaDoor
