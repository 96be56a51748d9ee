/- What Do of package word leaves, one walk for each case. -/
import Derived.Test.YtfkjkdoloamakaaDoorWh
namespace Go.Proofs.YtfkjkdoloamakaaDoor
open Go.RowKit

theorem formed_is (x y : Int) (t : Bool) (h : fm (x, y) = t) (w : World) : Calls Tryd.prog 117 #[.agg #[.int .i64 x, .int .i64 y]] w fun e w' => e = .returned (.bool t) ∧ w' = w.alloc (.cells #[.int .i64 x, .int .i64 y] 85) := by
  rw [← h]; exact formed_any x y w
theorem table_yes (k : Int) (h : has2 k = true) (w : World) : Calls Tryd.prog 116 #[.int .i64 k] w fun e w' => ∃ o i, e = .returned (.func (.func o) #[] #[.pointer (some ⟨w.heap.size, 0, none⟩)]) ∧ w' = w.alloc (.cells #[.func (.func i) #[] #[]] 181) := by
  obtain ⟨o, i, h1, _, _⟩ := inner_any k 0 0 h
  refine (table_any k w).mono fun e w' he => ⟨o, i, ?_⟩
  have h2 : tbV k w = .func (.func o) #[] #[.pointer (some ⟨w.heap.size, 0, none⟩)] := by simp only [tbV, h1]
  have h3 : tbW k w = w.alloc (.cells #[.func (.func i) #[] #[]] 181) := by simp only [tbW, h1]
  rw [h2, h3] at he; exact he
theorem both_is (k x p y q v1 v2 t : Int) (hk : two2 k = true) (hv : bothV k (x, p) (y, q) = (v1, v2)) (ht : bothT k (x, p) (y, q) = t) (w : World) :
    Calls Tryd.prog 118 #[.int .i64 k, .agg #[.int .i64 x, .int .i64 p], .agg #[.int .i64 y, .int .i64 q]] w fun e w' => e = .returned (.tuple #[.agg #[.int .i64 v1, .int .i64 v2], .int .i64 t]) ∧ Below w.heap.size w w' := by
  have h := both_any k (x, p) (y, q) hk w
  rw [hv, ht] at h; exact h
theorem table_no (k : Int) (h : has2 k = false) (w : World) : Calls Tryd.prog 116 #[.int .i64 k] w fun e w' => e = .returned .nilFunc ∧ w = w' := table_none k (tb_none k h) w

theorem do_none (k u : Int) (s : Bool)  (d A B C n g x p y q z r : Int) (hl : lateK k = u) (hs : lateB k = s) (ht : has2 u = false) (h1 : k ≠ 1) (h2 : k ≠ 2) (h12 : k ≠ 12) (w : World) :
    Calls Tryd.prog 100 #[.agg #[.int .i64 k, .int .i64 d, .int .i64 A, .int .i64 B, .int .i64 C, .int .i64 n, .int .i64 g], .agg #[.int .i64 x, .int .i64 p], .agg #[.int .i64 y, .int .i64 q], .agg #[.int .i64 z, .int .i64 r]] w fun e w' => e = .returned (.tuple #[.agg #[.int .i64 0, .int .i64 0], .int .i64 0, .int .i64 2]) ∧ Below w.heap.size w w' := by
  have b1 : (k != 1) = true := by simp [h1]
  have b2 : (k != 2) = true := by simp [h2]
  have b12 : (k != 12) = true := by simp [h12]
  have d1 : (k == 1) = false := by simp [h1]
  have d2 : (k == 2) = false := by simp [h2]
  have d12 : (k == 12) = false := by simp [h12]
  have HL := Lib.hid hl
  have HS := Lib.hid hs
  have HT := Lib.hid ht
  clear hl hs ht h1 h2 h12
  have hef := eql_nofn
  go_enter Tryd.func100, Tryd.ntmps100
  go_wp2_with (first | (go_at_call 115; refine (late_is _ _ _ HL.out HS.out _).mono ?_; rintro e w' ⟨rfl, rfl⟩) | (go_at_call 116; refine (table_no _ HT.out _).mono ?_; rintro e w' ⟨rfl, rfl⟩) | (go_at_call 117; ((first | (with_reducible refine (formed_is _ _ _ HA.out _).mono ?_) | (with_reducible refine (formed_is _ _ _ HB.out _).mono ?_) | (with_reducible refine (formed_is _ _ _ HC.out _).mono ?_)); rintro e w' ⟨rfl, rfl⟩)))
  go_returns
  refine ⟨rfl, ?_⟩
  repeat' (first | (with_reducible exact Below.refl _ _) | (with_reducible refine drewN_below ?_ _) | (with_reducible refine Below.alloc ?_ ?_ _) | (with_reducible refine Below.setCell ?_ ?_ _) | go_size)

theorem do_form_0 (k u : Int) (s : Bool)  (d A B C n g x p y q z r : Int) (hl : lateK k = u) (hs : lateB k = s) (ht : has2 u = true) (h1 : k ≠ 1) (h2 : k ≠ 2) (h12 : k ≠ 12) (hA : fm (x, p) = false) (w : World) :
    Calls Tryd.prog 100 #[.agg #[.int .i64 k, .int .i64 d, .int .i64 A, .int .i64 B, .int .i64 C, .int .i64 n, .int .i64 g], .agg #[.int .i64 x, .int .i64 p], .agg #[.int .i64 y, .int .i64 q], .agg #[.int .i64 z, .int .i64 r]] w fun e w' => e = .returned (.tuple #[.agg #[.int .i64 0, .int .i64 0], .int .i64 0, .int .i64 4]) ∧ Below w.heap.size w w' := by
  have HA := Lib.hid hA
  clear hA
  have b1 : (k != 1) = true := by simp [h1]
  have b2 : (k != 2) = true := by simp [h2]
  have b12 : (k != 12) = true := by simp [h12]
  have d1 : (k == 1) = false := by simp [h1]
  have d2 : (k == 2) = false := by simp [h2]
  have d12 : (k == 12) = false := by simp [h12]
  have HL := Lib.hid hl
  have HS := Lib.hid hs
  have HT := Lib.hid ht
  clear hl hs ht h1 h2 h12
  have hef := eql_fn
  go_enter Tryd.func100, Tryd.ntmps100
  go_wp2_with (first | (go_at_call 115; refine (late_is _ _ _ HL.out HS.out _).mono ?_; rintro e w' ⟨rfl, rfl⟩) | (go_at_call 116; refine (table_yes _ HT.out _).mono ?_; rintro e w' ⟨o, i, rfl, rfl⟩) | (go_at_call 117; ((first | (with_reducible refine (formed_is _ _ _ HA.out _).mono ?_) | (with_reducible refine (formed_is _ _ _ HB.out _).mono ?_) | (with_reducible refine (formed_is _ _ _ HC.out _).mono ?_)); rintro e w' ⟨rfl, rfl⟩)))
  go_returns
  refine ⟨rfl, ?_⟩
  repeat' (first | (with_reducible exact Below.refl _ _) | (with_reducible refine drewN_below ?_ _) | (with_reducible refine Below.alloc ?_ ?_ _) | (with_reducible refine Below.setCell ?_ ?_ _) | go_size)

theorem do_form_0_k1  (d A B C n g x p y q z r : Int) (hA : fm (x, p) = false) (w : World) :
    Calls Tryd.prog 100 #[.agg #[.int .i64 1, .int .i64 d, .int .i64 A, .int .i64 B, .int .i64 C, .int .i64 n, .int .i64 g], .agg #[.int .i64 x, .int .i64 p], .agg #[.int .i64 y, .int .i64 q], .agg #[.int .i64 z, .int .i64 r]] w fun e w' => e = .returned (.tuple #[.agg #[.int .i64 0, .int .i64 0], .int .i64 0, .int .i64 4]) ∧ Below w.heap.size w w' := by
  have HA := Lib.hid hA
  clear hA
  have hl : lateK 1 = 1 := rfl
  have hs : lateB 1 = false := rfl
  have HL := Lib.hid hl
  have HS := Lib.hid hs
  clear hl hs
  go_enter Tryd.func100, Tryd.ntmps100
  go_wp2_with (first | (go_at_call 115; refine (late_is _ _ _ HL.out HS.out _).mono ?_; rintro e w' ⟨rfl, rfl⟩) | (go_at_call 117; ((first | (with_reducible refine (formed_is _ _ _ HA.out _).mono ?_) | (with_reducible refine (formed_is _ _ _ HB.out _).mono ?_) | (with_reducible refine (formed_is _ _ _ HC.out _).mono ?_)); rintro e w' ⟨rfl, rfl⟩)))
  go_returns
  refine ⟨rfl, ?_⟩
  repeat' (first | (with_reducible exact Below.refl _ _) | (with_reducible refine drewN_below ?_ _) | (with_reducible refine Below.alloc ?_ ?_ _) | (with_reducible refine Below.setCell ?_ ?_ _) | go_size)

theorem do_form_0_k2  (d A B C n g x p y q z r : Int) (hA : fm (x, p) = false) (w : World) :
    Calls Tryd.prog 100 #[.agg #[.int .i64 2, .int .i64 d, .int .i64 A, .int .i64 B, .int .i64 C, .int .i64 n, .int .i64 g], .agg #[.int .i64 x, .int .i64 p], .agg #[.int .i64 y, .int .i64 q], .agg #[.int .i64 z, .int .i64 r]] w fun e w' => e = .returned (.tuple #[.agg #[.int .i64 0, .int .i64 0], .int .i64 0, .int .i64 4]) ∧ Below w.heap.size w w' := by
  have HA := Lib.hid hA
  clear hA
  have hl : lateK 2 = 2 := rfl
  have hs : lateB 2 = false := rfl
  have HL := Lib.hid hl
  have HS := Lib.hid hs
  clear hl hs
  go_enter Tryd.func100, Tryd.ntmps100
  go_wp2_with (first | (go_at_call 115; refine (late_is _ _ _ HL.out HS.out _).mono ?_; rintro e w' ⟨rfl, rfl⟩) | (go_at_call 117; ((first | (with_reducible refine (formed_is _ _ _ HA.out _).mono ?_) | (with_reducible refine (formed_is _ _ _ HB.out _).mono ?_) | (with_reducible refine (formed_is _ _ _ HC.out _).mono ?_)); rintro e w' ⟨rfl, rfl⟩)))
  go_returns
  refine ⟨rfl, ?_⟩
  repeat' (first | (with_reducible exact Below.refl _ _) | (with_reducible refine drewN_below ?_ _) | (with_reducible refine Below.alloc ?_ ?_ _) | (with_reducible refine Below.setCell ?_ ?_ _) | go_size)

theorem do_form_0_k12  (d A B C n g x p y q z r : Int) (hA : fm (x, p) = false) (w : World) :
    Calls Tryd.prog 100 #[.agg #[.int .i64 12, .int .i64 d, .int .i64 A, .int .i64 B, .int .i64 C, .int .i64 n, .int .i64 g], .agg #[.int .i64 x, .int .i64 p], .agg #[.int .i64 y, .int .i64 q], .agg #[.int .i64 z, .int .i64 r]] w fun e w' => e = .returned (.tuple #[.agg #[.int .i64 0, .int .i64 0], .int .i64 0, .int .i64 4]) ∧ Below w.heap.size w w' := by
  have HA := Lib.hid hA
  clear hA
  have hl : lateK 12 = 12 := rfl
  have hs : lateB 12 = false := rfl
  have HL := Lib.hid hl
  have HS := Lib.hid hs
  clear hl hs
  go_enter Tryd.func100, Tryd.ntmps100
  go_wp2_with (first | (go_at_call 115; refine (late_is _ _ _ HL.out HS.out _).mono ?_; rintro e w' ⟨rfl, rfl⟩) | (go_at_call 117; ((first | (with_reducible refine (formed_is _ _ _ HA.out _).mono ?_) | (with_reducible refine (formed_is _ _ _ HB.out _).mono ?_) | (with_reducible refine (formed_is _ _ _ HC.out _).mono ?_)); rintro e w' ⟨rfl, rfl⟩)))
  go_returns
  refine ⟨rfl, ?_⟩
  repeat' (first | (with_reducible exact Below.refl _ _) | (with_reducible refine drewN_below ?_ _) | (with_reducible refine Below.alloc ?_ ?_ _) | (with_reducible refine Below.setCell ?_ ?_ _) | go_size)

theorem do_form_1 (k u : Int) (s : Bool)  (d A B C n g x p y q z r : Int) (hl : lateK k = u) (hs : lateB k = s) (ht : has2 u = true) (h1 : k ≠ 1) (h2 : k ≠ 2) (h12 : k ≠ 12) (hA : fm (x, p) = true) (hB : fm (y, q) = false) (w : World) :
    Calls Tryd.prog 100 #[.agg #[.int .i64 k, .int .i64 d, .int .i64 A, .int .i64 B, .int .i64 C, .int .i64 n, .int .i64 g], .agg #[.int .i64 x, .int .i64 p], .agg #[.int .i64 y, .int .i64 q], .agg #[.int .i64 z, .int .i64 r]] w fun e w' => e = .returned (.tuple #[.agg #[.int .i64 0, .int .i64 0], .int .i64 0, .int .i64 4]) ∧ Below w.heap.size w w' := by
  have HA := Lib.hid hA
  clear hA
  have HB := Lib.hid hB
  clear hB
  have b1 : (k != 1) = true := by simp [h1]
  have b2 : (k != 2) = true := by simp [h2]
  have b12 : (k != 12) = true := by simp [h12]
  have d1 : (k == 1) = false := by simp [h1]
  have d2 : (k == 2) = false := by simp [h2]
  have d12 : (k == 12) = false := by simp [h12]
  have HL := Lib.hid hl
  have HS := Lib.hid hs
  have HT := Lib.hid ht
  clear hl hs ht h1 h2 h12
  have hef := eql_fn
  go_enter Tryd.func100, Tryd.ntmps100
  go_wp2_with (first | (go_at_call 115; refine (late_is _ _ _ HL.out HS.out _).mono ?_; rintro e w' ⟨rfl, rfl⟩) | (go_at_call 116; refine (table_yes _ HT.out _).mono ?_; rintro e w' ⟨o, i, rfl, rfl⟩) | (go_at_call 117; ((first | (with_reducible refine (formed_is _ _ _ HA.out _).mono ?_) | (with_reducible refine (formed_is _ _ _ HB.out _).mono ?_) | (with_reducible refine (formed_is _ _ _ HC.out _).mono ?_)); rintro e w' ⟨rfl, rfl⟩)))
  go_returns
  refine ⟨rfl, ?_⟩
  repeat' (first | (with_reducible exact Below.refl _ _) | (with_reducible refine drewN_below ?_ _) | (with_reducible refine Below.alloc ?_ ?_ _) | (with_reducible refine Below.setCell ?_ ?_ _) | go_size)

theorem do_form_1_k1  (d A B C n g x p y q z r : Int) (hA : fm (x, p) = true) (hB : fm (y, q) = false) (w : World) :
    Calls Tryd.prog 100 #[.agg #[.int .i64 1, .int .i64 d, .int .i64 A, .int .i64 B, .int .i64 C, .int .i64 n, .int .i64 g], .agg #[.int .i64 x, .int .i64 p], .agg #[.int .i64 y, .int .i64 q], .agg #[.int .i64 z, .int .i64 r]] w fun e w' => e = .returned (.tuple #[.agg #[.int .i64 0, .int .i64 0], .int .i64 0, .int .i64 4]) ∧ Below w.heap.size w w' := by
  have HA := Lib.hid hA
  clear hA
  have HB := Lib.hid hB
  clear hB
  have hl : lateK 1 = 1 := rfl
  have hs : lateB 1 = false := rfl
  have HL := Lib.hid hl
  have HS := Lib.hid hs
  clear hl hs
  go_enter Tryd.func100, Tryd.ntmps100
  go_wp2_with (first | (go_at_call 115; refine (late_is _ _ _ HL.out HS.out _).mono ?_; rintro e w' ⟨rfl, rfl⟩) | (go_at_call 117; ((first | (with_reducible refine (formed_is _ _ _ HA.out _).mono ?_) | (with_reducible refine (formed_is _ _ _ HB.out _).mono ?_) | (with_reducible refine (formed_is _ _ _ HC.out _).mono ?_)); rintro e w' ⟨rfl, rfl⟩)))
  go_returns
  refine ⟨rfl, ?_⟩
  repeat' (first | (with_reducible exact Below.refl _ _) | (with_reducible refine drewN_below ?_ _) | (with_reducible refine Below.alloc ?_ ?_ _) | (with_reducible refine Below.setCell ?_ ?_ _) | go_size)

theorem do_form_1_k2  (d A B C n g x p y q z r : Int) (hA : fm (x, p) = true) (hB : fm (y, q) = false) (w : World) :
    Calls Tryd.prog 100 #[.agg #[.int .i64 2, .int .i64 d, .int .i64 A, .int .i64 B, .int .i64 C, .int .i64 n, .int .i64 g], .agg #[.int .i64 x, .int .i64 p], .agg #[.int .i64 y, .int .i64 q], .agg #[.int .i64 z, .int .i64 r]] w fun e w' => e = .returned (.tuple #[.agg #[.int .i64 0, .int .i64 0], .int .i64 0, .int .i64 4]) ∧ Below w.heap.size w w' := by
  have HA := Lib.hid hA
  clear hA
  have HB := Lib.hid hB
  clear hB
  have hl : lateK 2 = 2 := rfl
  have hs : lateB 2 = false := rfl
  have HL := Lib.hid hl
  have HS := Lib.hid hs
  clear hl hs
  go_enter Tryd.func100, Tryd.ntmps100
  go_wp2_with (first | (go_at_call 115; refine (late_is _ _ _ HL.out HS.out _).mono ?_; rintro e w' ⟨rfl, rfl⟩) | (go_at_call 117; ((first | (with_reducible refine (formed_is _ _ _ HA.out _).mono ?_) | (with_reducible refine (formed_is _ _ _ HB.out _).mono ?_) | (with_reducible refine (formed_is _ _ _ HC.out _).mono ?_)); rintro e w' ⟨rfl, rfl⟩)))
  go_returns
  refine ⟨rfl, ?_⟩
  repeat' (first | (with_reducible exact Below.refl _ _) | (with_reducible refine drewN_below ?_ _) | (with_reducible refine Below.alloc ?_ ?_ _) | (with_reducible refine Below.setCell ?_ ?_ _) | go_size)

theorem do_form_1_k12  (d A B C n g x p y q z r : Int) (hA : fm (x, p) = true) (hB : fm (y, q) = false) (w : World) :
    Calls Tryd.prog 100 #[.agg #[.int .i64 12, .int .i64 d, .int .i64 A, .int .i64 B, .int .i64 C, .int .i64 n, .int .i64 g], .agg #[.int .i64 x, .int .i64 p], .agg #[.int .i64 y, .int .i64 q], .agg #[.int .i64 z, .int .i64 r]] w fun e w' => e = .returned (.tuple #[.agg #[.int .i64 0, .int .i64 0], .int .i64 0, .int .i64 4]) ∧ Below w.heap.size w w' := by
  have HA := Lib.hid hA
  clear hA
  have HB := Lib.hid hB
  clear hB
  have hl : lateK 12 = 12 := rfl
  have hs : lateB 12 = false := rfl
  have HL := Lib.hid hl
  have HS := Lib.hid hs
  clear hl hs
  go_enter Tryd.func100, Tryd.ntmps100
  go_wp2_with (first | (go_at_call 115; refine (late_is _ _ _ HL.out HS.out _).mono ?_; rintro e w' ⟨rfl, rfl⟩) | (go_at_call 117; ((first | (with_reducible refine (formed_is _ _ _ HA.out _).mono ?_) | (with_reducible refine (formed_is _ _ _ HB.out _).mono ?_) | (with_reducible refine (formed_is _ _ _ HC.out _).mono ?_)); rintro e w' ⟨rfl, rfl⟩)))
  go_returns
  refine ⟨rfl, ?_⟩
  repeat' (first | (with_reducible exact Below.refl _ _) | (with_reducible refine drewN_below ?_ _) | (with_reducible refine Below.alloc ?_ ?_ _) | (with_reducible refine Below.setCell ?_ ?_ _) | go_size)

theorem do_form_2 (k u : Int) (s : Bool)  (d A B C n g x p y q z r : Int) (hl : lateK k = u) (hs : lateB k = s) (ht : has2 u = true) (h1 : k ≠ 1) (h2 : k ≠ 2) (h12 : k ≠ 12) (hA : fm (x, p) = true) (hB : fm (y, q) = true) (hC : fm (z, r) = false) (w : World) :
    Calls Tryd.prog 100 #[.agg #[.int .i64 k, .int .i64 d, .int .i64 A, .int .i64 B, .int .i64 C, .int .i64 n, .int .i64 g], .agg #[.int .i64 x, .int .i64 p], .agg #[.int .i64 y, .int .i64 q], .agg #[.int .i64 z, .int .i64 r]] w fun e w' => e = .returned (.tuple #[.agg #[.int .i64 0, .int .i64 0], .int .i64 0, .int .i64 4]) ∧ Below w.heap.size w w' := by
  have HA := Lib.hid hA
  clear hA
  have HB := Lib.hid hB
  clear hB
  have HC := Lib.hid hC
  clear hC
  have b1 : (k != 1) = true := by simp [h1]
  have b2 : (k != 2) = true := by simp [h2]
  have b12 : (k != 12) = true := by simp [h12]
  have d1 : (k == 1) = false := by simp [h1]
  have d2 : (k == 2) = false := by simp [h2]
  have d12 : (k == 12) = false := by simp [h12]
  have HL := Lib.hid hl
  have HS := Lib.hid hs
  have HT := Lib.hid ht
  clear hl hs ht h1 h2 h12
  have hef := eql_fn
  go_enter Tryd.func100, Tryd.ntmps100
  go_wp2_with (first | (go_at_call 115; refine (late_is _ _ _ HL.out HS.out _).mono ?_; rintro e w' ⟨rfl, rfl⟩) | (go_at_call 116; refine (table_yes _ HT.out _).mono ?_; rintro e w' ⟨o, i, rfl, rfl⟩) | (go_at_call 117; ((first | (with_reducible refine (formed_is _ _ _ HA.out _).mono ?_) | (with_reducible refine (formed_is _ _ _ HB.out _).mono ?_) | (with_reducible refine (formed_is _ _ _ HC.out _).mono ?_)); rintro e w' ⟨rfl, rfl⟩)))
  go_returns
  refine ⟨rfl, ?_⟩
  repeat' (first | (with_reducible exact Below.refl _ _) | (with_reducible refine drewN_below ?_ _) | (with_reducible refine Below.alloc ?_ ?_ _) | (with_reducible refine Below.setCell ?_ ?_ _) | go_size)

theorem do_form_2_k1  (d A B C n g x p y q z r : Int) (hA : fm (x, p) = true) (hB : fm (y, q) = true) (hC : fm (z, r) = false) (w : World) :
    Calls Tryd.prog 100 #[.agg #[.int .i64 1, .int .i64 d, .int .i64 A, .int .i64 B, .int .i64 C, .int .i64 n, .int .i64 g], .agg #[.int .i64 x, .int .i64 p], .agg #[.int .i64 y, .int .i64 q], .agg #[.int .i64 z, .int .i64 r]] w fun e w' => e = .returned (.tuple #[.agg #[.int .i64 0, .int .i64 0], .int .i64 0, .int .i64 4]) ∧ Below w.heap.size w w' := by
  have HA := Lib.hid hA
  clear hA
  have HB := Lib.hid hB
  clear hB
  have HC := Lib.hid hC
  clear hC
  have hl : lateK 1 = 1 := rfl
  have hs : lateB 1 = false := rfl
  have HL := Lib.hid hl
  have HS := Lib.hid hs
  clear hl hs
  go_enter Tryd.func100, Tryd.ntmps100
  go_wp2_with (first | (go_at_call 115; refine (late_is _ _ _ HL.out HS.out _).mono ?_; rintro e w' ⟨rfl, rfl⟩) | (go_at_call 117; ((first | (with_reducible refine (formed_is _ _ _ HA.out _).mono ?_) | (with_reducible refine (formed_is _ _ _ HB.out _).mono ?_) | (with_reducible refine (formed_is _ _ _ HC.out _).mono ?_)); rintro e w' ⟨rfl, rfl⟩)))
  go_returns
  refine ⟨rfl, ?_⟩
  repeat' (first | (with_reducible exact Below.refl _ _) | (with_reducible refine drewN_below ?_ _) | (with_reducible refine Below.alloc ?_ ?_ _) | (with_reducible refine Below.setCell ?_ ?_ _) | go_size)

theorem do_form_2_k2  (d A B C n g x p y q z r : Int) (hA : fm (x, p) = true) (hB : fm (y, q) = true) (hC : fm (z, r) = false) (w : World) :
    Calls Tryd.prog 100 #[.agg #[.int .i64 2, .int .i64 d, .int .i64 A, .int .i64 B, .int .i64 C, .int .i64 n, .int .i64 g], .agg #[.int .i64 x, .int .i64 p], .agg #[.int .i64 y, .int .i64 q], .agg #[.int .i64 z, .int .i64 r]] w fun e w' => e = .returned (.tuple #[.agg #[.int .i64 0, .int .i64 0], .int .i64 0, .int .i64 4]) ∧ Below w.heap.size w w' := by
  have HA := Lib.hid hA
  clear hA
  have HB := Lib.hid hB
  clear hB
  have HC := Lib.hid hC
  clear hC
  have hl : lateK 2 = 2 := rfl
  have hs : lateB 2 = false := rfl
  have HL := Lib.hid hl
  have HS := Lib.hid hs
  clear hl hs
  go_enter Tryd.func100, Tryd.ntmps100
  go_wp2_with (first | (go_at_call 115; refine (late_is _ _ _ HL.out HS.out _).mono ?_; rintro e w' ⟨rfl, rfl⟩) | (go_at_call 117; ((first | (with_reducible refine (formed_is _ _ _ HA.out _).mono ?_) | (with_reducible refine (formed_is _ _ _ HB.out _).mono ?_) | (with_reducible refine (formed_is _ _ _ HC.out _).mono ?_)); rintro e w' ⟨rfl, rfl⟩)))
  go_returns
  refine ⟨rfl, ?_⟩
  repeat' (first | (with_reducible exact Below.refl _ _) | (with_reducible refine drewN_below ?_ _) | (with_reducible refine Below.alloc ?_ ?_ _) | (with_reducible refine Below.setCell ?_ ?_ _) | go_size)

theorem do_form_2_k12  (d A B C n g x p y q z r : Int) (hA : fm (x, p) = true) (hB : fm (y, q) = true) (hC : fm (z, r) = false) (w : World) :
    Calls Tryd.prog 100 #[.agg #[.int .i64 12, .int .i64 d, .int .i64 A, .int .i64 B, .int .i64 C, .int .i64 n, .int .i64 g], .agg #[.int .i64 x, .int .i64 p], .agg #[.int .i64 y, .int .i64 q], .agg #[.int .i64 z, .int .i64 r]] w fun e w' => e = .returned (.tuple #[.agg #[.int .i64 0, .int .i64 0], .int .i64 0, .int .i64 4]) ∧ Below w.heap.size w w' := by
  have HA := Lib.hid hA
  clear hA
  have HB := Lib.hid hB
  clear hB
  have HC := Lib.hid hC
  clear hC
  have hl : lateK 12 = 12 := rfl
  have hs : lateB 12 = false := rfl
  have HL := Lib.hid hl
  have HS := Lib.hid hs
  clear hl hs
  go_enter Tryd.func100, Tryd.ntmps100
  go_wp2_with (first | (go_at_call 115; refine (late_is _ _ _ HL.out HS.out _).mono ?_; rintro e w' ⟨rfl, rfl⟩) | (go_at_call 117; ((first | (with_reducible refine (formed_is _ _ _ HA.out _).mono ?_) | (with_reducible refine (formed_is _ _ _ HB.out _).mono ?_) | (with_reducible refine (formed_is _ _ _ HC.out _).mono ?_)); rintro e w' ⟨rfl, rfl⟩)))
  go_returns
  refine ⟨rfl, ?_⟩
  repeat' (first | (with_reducible exact Below.refl _ _) | (with_reducible refine drewN_below ?_ _) | (with_reducible refine Below.alloc ?_ ?_ _) | (with_reducible refine Below.setCell ?_ ?_ _) | go_size)

theorem do_const  (d A B C n g x p y q z r : Int) (hA : fm (x, p) = true) (hB : fm (y, q) = true) (hC : fm (z, r) = true) (w : World) :
    Calls Tryd.prog 100 #[.agg #[.int .i64 1, .int .i64 d, .int .i64 A, .int .i64 B, .int .i64 C, .int .i64 n, .int .i64 g], .agg #[.int .i64 x, .int .i64 p], .agg #[.int .i64 y, .int .i64 q], .agg #[.int .i64 z, .int .i64 r]] w fun e w' => e = .returned (.tuple #[.agg #[.int .i64 n, .int .i64 0], .int .i64 0, .int .i64 0]) ∧ Below w.heap.size w w' := by
  have HA := Lib.hid hA
  clear hA
  have HB := Lib.hid hB
  clear hB
  have HC := Lib.hid hC
  clear hC
  have hl : lateK 1 = 1 := rfl
  have hs : lateB 1 = false := rfl
  have HL := Lib.hid hl
  have HS := Lib.hid hs
  clear hl hs
  go_enter Tryd.func100, Tryd.ntmps100
  go_wp2_with (first | (go_at_call 115; refine (late_is _ _ _ HL.out HS.out _).mono ?_; rintro e w' ⟨rfl, rfl⟩) | (go_at_call 117; ((first | (with_reducible refine (formed_is _ _ _ HA.out _).mono ?_) | (with_reducible refine (formed_is _ _ _ HB.out _).mono ?_) | (with_reducible refine (formed_is _ _ _ HC.out _).mono ?_)); rintro e w' ⟨rfl, rfl⟩)))
  go_returns
  refine ⟨rfl, ?_⟩
  repeat' (first | (with_reducible exact Below.refl _ _) | (with_reducible refine drewN_below ?_ _) | (with_reducible refine Below.alloc ?_ ?_ _) | (with_reducible refine Below.setCell ?_ ?_ _) | go_size)

theorem do_move  (d A B C n g x p y q z r : Int) (hA : fm (x, p) = true) (hB : fm (y, q) = true) (hC : fm (z, r) = true) (w : World) :
    Calls Tryd.prog 100 #[.agg #[.int .i64 2, .int .i64 d, .int .i64 A, .int .i64 B, .int .i64 C, .int .i64 n, .int .i64 g], .agg #[.int .i64 x, .int .i64 p], .agg #[.int .i64 y, .int .i64 q], .agg #[.int .i64 z, .int .i64 r]] w fun e w' => e = .returned (.tuple #[.agg #[.int .i64 x, .int .i64 p], .int .i64 0, .int .i64 0]) ∧ Below w.heap.size w w' := by
  have HA := Lib.hid hA
  clear hA
  have HB := Lib.hid hB
  clear hB
  have HC := Lib.hid hC
  clear hC
  have hl : lateK 2 = 2 := rfl
  have hs : lateB 2 = false := rfl
  have HL := Lib.hid hl
  have HS := Lib.hid hs
  clear hl hs
  go_enter Tryd.func100, Tryd.ntmps100
  go_wp2_with (first | (go_at_call 115; refine (late_is _ _ _ HL.out HS.out _).mono ?_; rintro e w' ⟨rfl, rfl⟩) | (go_at_call 117; ((first | (with_reducible refine (formed_is _ _ _ HA.out _).mono ?_) | (with_reducible refine (formed_is _ _ _ HB.out _).mono ?_) | (with_reducible refine (formed_is _ _ _ HC.out _).mono ?_)); rintro e w' ⟨rfl, rfl⟩)))
  go_returns
  refine ⟨rfl, ?_⟩
  repeat' (first | (with_reducible exact Below.refl _ _) | (with_reducible refine drewN_below ?_ _) | (with_reducible refine Below.alloc ?_ ?_ _) | (with_reducible refine Below.setCell ?_ ?_ _) | go_size)

theorem do_pick_bad  (d A B C n g x p y q z r : Int) (hp : p ≠ 0) (hA : fm (x, p) = true) (hB : fm (y, q) = true) (hC : fm (z, r) = true) (w : World) :
    Calls Tryd.prog 100 #[.agg #[.int .i64 12, .int .i64 d, .int .i64 A, .int .i64 B, .int .i64 C, .int .i64 n, .int .i64 g], .agg #[.int .i64 x, .int .i64 p], .agg #[.int .i64 y, .int .i64 q], .agg #[.int .i64 z, .int .i64 r]] w fun e w' => e = .returned (.tuple #[.agg #[.int .i64 x, .int .i64 p], .int .i64 0, .int .i64 0]) ∧ Below w.heap.size w w' := by
  have HA := Lib.hid hA
  clear hA
  have HB := Lib.hid hB
  clear hB
  have HC := Lib.hid hC
  clear hC
  have hl : lateK 12 = 12 := rfl
  have hs : lateB 12 = false := rfl
  have HL := Lib.hid hl
  have HS := Lib.hid hs
  clear hl hs
  go_enter Tryd.func100, Tryd.ntmps100
  go_wp2_with (first | (go_at_call 115; refine (late_is _ _ _ HL.out HS.out _).mono ?_; rintro e w' ⟨rfl, rfl⟩) | (go_at_call 117; ((first | (with_reducible refine (formed_is _ _ _ HA.out _).mono ?_) | (with_reducible refine (formed_is _ _ _ HB.out _).mono ?_) | (with_reducible refine (formed_is _ _ _ HC.out _).mono ?_)); rintro e w' ⟨rfl, rfl⟩)))
  go_returns
  refine ⟨rfl, ?_⟩
  repeat' (first | (with_reducible exact Below.refl _ _) | (with_reducible refine drewN_below ?_ _) | (with_reducible refine Below.alloc ?_ ?_ _) | (with_reducible refine Below.setCell ?_ ?_ _) | go_size)

theorem do_pick_yes  (d A B C n g x y q z r : Int) (hx : x ≠ 0) (hA : fm (x, 0) = true) (hB : fm (y, q) = true) (hC : fm (z, r) = true) (w : World) :
    Calls Tryd.prog 100 #[.agg #[.int .i64 12, .int .i64 d, .int .i64 A, .int .i64 B, .int .i64 C, .int .i64 n, .int .i64 g], .agg #[.int .i64 x, .int .i64 0], .agg #[.int .i64 y, .int .i64 q], .agg #[.int .i64 z, .int .i64 r]] w fun e w' => e = .returned (.tuple #[.agg #[.int .i64 y, .int .i64 q], .int .i64 0, .int .i64 0]) ∧ Below w.heap.size w w' := by
  have HA := Lib.hid hA
  clear hA
  have HB := Lib.hid hB
  clear hB
  have HC := Lib.hid hC
  clear hC
  have hl : lateK 12 = 12 := rfl
  have hs : lateB 12 = false := rfl
  have HL := Lib.hid hl
  have HS := Lib.hid hs
  clear hl hs
  go_enter Tryd.func100, Tryd.ntmps100
  go_wp2_with (first | (go_at_call 115; refine (late_is _ _ _ HL.out HS.out _).mono ?_; rintro e w' ⟨rfl, rfl⟩) | (go_at_call 117; ((first | (with_reducible refine (formed_is _ _ _ HA.out _).mono ?_) | (with_reducible refine (formed_is _ _ _ HB.out _).mono ?_) | (with_reducible refine (formed_is _ _ _ HC.out _).mono ?_)); rintro e w' ⟨rfl, rfl⟩)))
  go_returns
  refine ⟨rfl, ?_⟩
  repeat' (first | (with_reducible exact Below.refl _ _) | (with_reducible refine drewN_below ?_ _) | (with_reducible refine Below.alloc ?_ ?_ _) | (with_reducible refine Below.setCell ?_ ?_ _) | go_size)

theorem do_pick_no  (d A B C n g y q z r : Int) (hA : fm (0, 0) = true) (hB : fm (y, q) = true) (hC : fm (z, r) = true) (w : World) :
    Calls Tryd.prog 100 #[.agg #[.int .i64 12, .int .i64 d, .int .i64 A, .int .i64 B, .int .i64 C, .int .i64 n, .int .i64 g], .agg #[.int .i64 0, .int .i64 0], .agg #[.int .i64 y, .int .i64 q], .agg #[.int .i64 z, .int .i64 r]] w fun e w' => e = .returned (.tuple #[.agg #[.int .i64 z, .int .i64 r], .int .i64 0, .int .i64 0]) ∧ Below w.heap.size w w' := by
  have HA := Lib.hid hA
  clear hA
  have HB := Lib.hid hB
  clear hB
  have HC := Lib.hid hC
  clear hC
  have hl : lateK 12 = 12 := rfl
  have hs : lateB 12 = false := rfl
  have HL := Lib.hid hl
  have HS := Lib.hid hs
  clear hl hs
  go_enter Tryd.func100, Tryd.ntmps100
  go_wp2_with (first | (go_at_call 115; refine (late_is _ _ _ HL.out HS.out _).mono ?_; rintro e w' ⟨rfl, rfl⟩) | (go_at_call 117; ((first | (with_reducible refine (formed_is _ _ _ HA.out _).mono ?_) | (with_reducible refine (formed_is _ _ _ HB.out _).mono ?_) | (with_reducible refine (formed_is _ _ _ HC.out _).mono ?_)); rintro e w' ⟨rfl, rfl⟩)))
  go_returns
  refine ⟨rfl, ?_⟩
  repeat' (first | (with_reducible exact Below.refl _ _) | (with_reducible refine drewN_below ?_ _) | (with_reducible refine Below.alloc ?_ ?_ _) | (with_reducible refine Below.setCell ?_ ?_ _) | go_size)

theorem do_both (k u : Int) (s : Bool)  (d A B C n g x p y q z r : Int) (hl : lateK k = u) (hs : lateB k = s) (ht : has2 u = true) (h1 : k ≠ 1) (h2 : k ≠ 2) (h12 : k ≠ 12) (v1 v2 t : Int) (hk : two2 k = true) (hv : bothV k (x, p) (y, q) = (v1, v2)) (hbt : bothT k (x, p) (y, q) = t) (hA : fm (x, p) = true) (hB : fm (y, q) = true) (hC : fm (z, r) = true) (w : World) :
    Calls Tryd.prog 100 #[.agg #[.int .i64 k, .int .i64 d, .int .i64 A, .int .i64 B, .int .i64 C, .int .i64 n, .int .i64 g], .agg #[.int .i64 x, .int .i64 p], .agg #[.int .i64 y, .int .i64 q], .agg #[.int .i64 z, .int .i64 r]] w fun e w' => e = .returned (.tuple #[.agg #[.int .i64 v1, .int .i64 v2], .int .i64 t, .int .i64 0]) ∧ Below w.heap.size w w' := by
  have HA := Lib.hid hA
  clear hA
  have HB := Lib.hid hB
  clear hB
  have HC := Lib.hid hC
  clear hC
  have b1 : (k != 1) = true := by simp [h1]
  have b2 : (k != 2) = true := by simp [h2]
  have b12 : (k != 12) = true := by simp [h12]
  have d1 : (k == 1) = false := by simp [h1]
  have d2 : (k == 2) = false := by simp [h2]
  have d12 : (k == 12) = false := by simp [h12]
  have HL := Lib.hid hl
  have HS := Lib.hid hs
  have HT := Lib.hid ht
  clear hl hs ht h1 h2 h12
  have HK := Lib.hid hk
  have HV := Lib.hid hv
  have HBT := Lib.hid hbt
  clear hk hv hbt
  have hef := eql_fn
  go_enter Tryd.func100, Tryd.ntmps100
  go_wp2_with (first | (go_at_call 115; refine (late_is _ _ _ HL.out HS.out _).mono ?_; rintro e w' ⟨rfl, rfl⟩) | (go_at_call 116; refine (table_yes _ HT.out _).mono ?_; rintro e w' ⟨o, i, rfl, rfl⟩) | (go_at_call 117; ((first | (with_reducible refine (formed_is _ _ _ HA.out _).mono ?_) | (with_reducible refine (formed_is _ _ _ HB.out _).mono ?_) | (with_reducible refine (formed_is _ _ _ HC.out _).mono ?_)); rintro e w' ⟨rfl, rfl⟩)))
  refine (both_is k x p y q _ _ _ HK.out HV.out HBT.out _).mono ?_
  rintro e w1 ⟨rfl, hb⟩
  have HB1 := Lib.hid hb
  obtain ⟨hc, hf⟩ := bcell hb
  have hz := hb.size
  clear hb
  simp only [World.size_alloc] at hc hf hz
  have hc8 := hc (w.heap.size + 1 + 1 + 1 + 1) 0 (by omega)
  have hc9 := hc (w.heap.size + 1 + 1 + 1 + 1) 1 (by omega)
  have hf8 := hf (w.heap.size + 1 + 1 + 1 + 1) 0 (by omega)
  have hf9 := hf (w.heap.size + 1 + 1 + 1 + 1) 1 (by omega)
  have hz4 : w.heap.size + 1 + 1 + 1 + 1 < w1.heap.size := by omega
  clear hc hf hz
  simp [go_sem] at hc8 hc9 hf8 hf9
  go_wp2
  refine bodyPost_ret (v := .tuple #[.agg #[.int .i64 v1, .int .i64 v2], .int .i64 t, .int .i64 0]) (by simp [results, Tryd.results100, go_sem, hc8, hc9, hz4]) rfl ⟨rfl, ?_⟩
  have hB := HB1.out
  refine Below.alloc (Below.setCell (Below.setCell (Below.trans ?_ (hB.mono ?_)) ?_ _) ?_ _) ?_ _
  all_goals first | go_size | (simp only [World.size_alloc, World.size_setCell]; omega) | (repeat' (first | (with_reducible exact Below.refl _ _) | (with_reducible refine drewN_below ?_ _) | (with_reducible refine Below.alloc ?_ ?_ _) | go_size))

end Go.Proofs.YtfkjkdoloamakaaDoor
