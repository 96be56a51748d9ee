/- The walk of the law WordDoes, one for each way: the kind is known or not, and which of the values is the first that is not formed. -/
import Derived.Test.YtlbfnmbodpfepaaWq
import Derived.Test.YtlbfnmbodpfepaaWn
import Derived.Deep.RegionHeld3
namespace Go.Proofs.Ytlbfnmbodpfepaa
open Go.RowKit

theorem rformed_is (x y : Int) (t : Bool) (h : fm (x, y) = t) (w : World) : Calls Try.prog 13 #[.agg #[.int .i64 x, .int .i64 y]] w fun e w' => e = .returned (.bool t) ∧ w' = w.alloc (.cells #[.int .i64 x, .int .i64 y] 32) := by
  rw [← h]; exact rformed_any x y w
theorem has_is (k : Int) (t : Bool) (h : known k = t) (w : World) : Calls Try.prog 15 #[.int .i64 k] w fun e w' => e = .returned (.bool t) ∧ w = w' := by
  rw [← h]; exact has_any k w

set_option maxHeartbeats 1000000 in
theorem does_no_0 (k d A B C n g x p y q z r : Int) (hk : known k = false) (hA : fm (x, p) = false) (w : World) :
    Calls Try.prog 4 #[.agg #[.int .i64 k, .int .i64 d, .int .i64 A, .int .i64 B, .int .i64 C, .int .i64 n, .int .i64 g], .agg #[.int .i64 x, .int .i64 p, .int .i64 y, .int .i64 q, .int .i64 z, .int .i64 r]] w fun e w' => e = .returned (.bool true) ∧ Below w.heap.size w w' := by
  have HK := Lib.hid hk
  have HA := Lib.hid hA
  have hg : fm3 (x, p) (y, q) (z, r) = false := by simp [fm3, hA]
  have HV := Lib.hid (show doV k n (x, p) (y, q) (z, r) = (0, 0) by simp [doV, hk])
  have HT := Lib.hid (show doT k (x, p) (y, q) (z, r) = 0 by simp [doT, hk])
  have HE := Lib.hid (show doE k (x, p) (y, q) (z, r) = 2 by simp [doE, hk])
  clear hg
  clear hk hA
  go_enter Try.func4, Try.ntmps4
  go_wp2_with fail
  refine (do_is _ _ _ _ _ _ _ _ _ _ _ _ _ _ _ _ _ HV.out HT.out HE.out _).mono ?_
  rintro e' w1 ⟨rfl, hb⟩
  have hA0 : Below w.heap.size w w1 := by refine Below.trans ?_ (hb.mono ?_) <;> go_grown
  obtain ⟨hc, hf⟩ := bcell hb
  have hz := hb.size
  clear hb
  simp only [World.size_alloc] at hc hf hz
  have o10 := hc (w.heap.size) 0 (by omega)
  have o11 := hc (w.heap.size) 1 (by omega)
  have o12 := hc (w.heap.size) 2 (by omega)
  have o13 := hc (w.heap.size) 3 (by omega)
  have o14 := hc (w.heap.size) 4 (by omega)
  have o15 := hc (w.heap.size) 5 (by omega)
  have o16 := hc (w.heap.size) 6 (by omega)
  have t10 := hc (w.heap.size + 1) 0 (by omega)
  have t11 := hc (w.heap.size + 1) 1 (by omega)
  have t12 := hc (w.heap.size + 1) 2 (by omega)
  have t13 := hc (w.heap.size + 1) 3 (by omega)
  have t14 := hc (w.heap.size + 1) 4 (by omega)
  have t15 := hc (w.heap.size + 1) 5 (by omega)
  have hz1 : w.heap.size + 1 < w1.heap.size := by omega
  have hz0 : w.heap.size < w1.heap.size := by omega
  have hy1 : w.heap.size < w1.heap.size + 1 := by omega
  have hy2 : w.heap.size < w1.heap.size + 1 + 1 := by omega
  have hy3 : w.heap.size < w1.heap.size + 1 + 1 + 1 := by omega
  have hy4 : w.heap.size < w1.heap.size + 1 + 1 + 1 + 1 := by omega
  have hy5 : w.heap.size < w1.heap.size + 1 + 1 + 1 + 1 + 1 := by omega
  have hy6 : w.heap.size < w1.heap.size + 1 + 1 + 1 + 1 + 1 + 1 := by omega
  clear hc hf hz
  simp [go_sem] at o10 o11 o12 o13 o14 o15 o16 t10 t11 t12 t13 t14 t15
  go_wp2_with (go_at_call 13; ((first | (with_reducible refine (rformed_is _ _ _ HA.out _).mono ?_) | (with_reducible refine (rformed_is _ _ _ HB.out _).mono ?_) | (with_reducible refine (rformed_is _ _ _ HC.out _).mono ?_)); rintro e w' ⟨rfl, rfl⟩))
  go_region_held3 (fun w' => w'.cell? ⟨w.heap.size + 1, 0, none⟩ = some (.int .i64 x) ∧ w'.cell? ⟨w.heap.size + 1, 1, none⟩ = some (.int .i64 p)) ((refine ⟨cell_later (w := w1) ?_ t10, cell_later (w := w1) ?_ t11⟩ <;> go_grown))
    (first | (go_at_call 13; refine (rformed_is _ _ _ HA.out _).mono ?_; rintro e w' ⟨rfl, rfl⟩) | (go_at_call 14; refine (formed_is _ _ _ HA.out _).mono ?_; rintro e w' ⟨rfl, rfl⟩))
  go_wp2_with (first | (go_at_call 15; refine (has_is _ _ HK.out _).mono ?_; rintro e w2 ⟨rfl, rfl⟩) | (go_at_call 11; refine (alive_any _).mono ?_; rintro e w3 ⟨rfl, h3⟩))
  go_ret
  refine ⟨rfl, Below.trans (Below.trans hA0 (Below.mono (B := w1.heap.size) (w := w1) ?_ (Nat.le_of_lt hz0))) (h3.mono ?_)⟩
  · go_grown
  · simp only [World.size_alloc, World.size_drew]; omega

set_option maxHeartbeats 1000000 in
theorem does_no_1 (k d A B C n g x p y q z r : Int) (hk : known k = false) (hA : fm (x, p) = true) (hB : fm (y, q) = false) (w : World) :
    Calls Try.prog 4 #[.agg #[.int .i64 k, .int .i64 d, .int .i64 A, .int .i64 B, .int .i64 C, .int .i64 n, .int .i64 g], .agg #[.int .i64 x, .int .i64 p, .int .i64 y, .int .i64 q, .int .i64 z, .int .i64 r]] w fun e w' => e = .returned (.bool true) ∧ Below w.heap.size w w' := by
  have HK := Lib.hid hk
  have HA := Lib.hid hA
  have HB := Lib.hid hB
  have hg : fm3 (x, p) (y, q) (z, r) = false := by simp [fm3, hA, hB]
  have HV := Lib.hid (show doV k n (x, p) (y, q) (z, r) = (0, 0) by simp [doV, hk])
  have HT := Lib.hid (show doT k (x, p) (y, q) (z, r) = 0 by simp [doT, hk])
  have HE := Lib.hid (show doE k (x, p) (y, q) (z, r) = 2 by simp [doE, hk])
  clear hg
  clear hk hA hB
  go_enter Try.func4, Try.ntmps4
  go_wp2_with fail
  refine (do_is _ _ _ _ _ _ _ _ _ _ _ _ _ _ _ _ _ HV.out HT.out HE.out _).mono ?_
  rintro e' w1 ⟨rfl, hb⟩
  have hA0 : Below w.heap.size w w1 := by refine Below.trans ?_ (hb.mono ?_) <;> go_grown
  obtain ⟨hc, hf⟩ := bcell hb
  have hz := hb.size
  clear hb
  simp only [World.size_alloc] at hc hf hz
  have o10 := hc (w.heap.size) 0 (by omega)
  have o11 := hc (w.heap.size) 1 (by omega)
  have o12 := hc (w.heap.size) 2 (by omega)
  have o13 := hc (w.heap.size) 3 (by omega)
  have o14 := hc (w.heap.size) 4 (by omega)
  have o15 := hc (w.heap.size) 5 (by omega)
  have o16 := hc (w.heap.size) 6 (by omega)
  have t10 := hc (w.heap.size + 1) 0 (by omega)
  have t11 := hc (w.heap.size + 1) 1 (by omega)
  have t12 := hc (w.heap.size + 1) 2 (by omega)
  have t13 := hc (w.heap.size + 1) 3 (by omega)
  have t14 := hc (w.heap.size + 1) 4 (by omega)
  have t15 := hc (w.heap.size + 1) 5 (by omega)
  have hz1 : w.heap.size + 1 < w1.heap.size := by omega
  have hz0 : w.heap.size < w1.heap.size := by omega
  have hy1 : w.heap.size < w1.heap.size + 1 := by omega
  have hy2 : w.heap.size < w1.heap.size + 1 + 1 := by omega
  have hy3 : w.heap.size < w1.heap.size + 1 + 1 + 1 := by omega
  have hy4 : w.heap.size < w1.heap.size + 1 + 1 + 1 + 1 := by omega
  have hy5 : w.heap.size < w1.heap.size + 1 + 1 + 1 + 1 + 1 := by omega
  have hy6 : w.heap.size < w1.heap.size + 1 + 1 + 1 + 1 + 1 + 1 := by omega
  clear hc hf hz
  simp [go_sem] at o10 o11 o12 o13 o14 o15 o16 t10 t11 t12 t13 t14 t15
  go_wp2_with (go_at_call 13; ((first | (with_reducible refine (rformed_is _ _ _ HA.out _).mono ?_) | (with_reducible refine (rformed_is _ _ _ HB.out _).mono ?_) | (with_reducible refine (rformed_is _ _ _ HC.out _).mono ?_)); rintro e w' ⟨rfl, rfl⟩))
  go_region_held3 (fun w' => w'.cell? ⟨w.heap.size + 1, 0, none⟩ = some (.int .i64 x) ∧ w'.cell? ⟨w.heap.size + 1, 1, none⟩ = some (.int .i64 p)) ((refine ⟨cell_later (w := w1) ?_ t10, cell_later (w := w1) ?_ t11⟩ <;> go_grown))
    (first | (go_at_call 13; refine (rformed_is _ _ _ HA.out _).mono ?_; rintro e w' ⟨rfl, rfl⟩) | (go_at_call 14; refine (formed_is _ _ _ HA.out _).mono ?_; rintro e w' ⟨rfl, rfl⟩))
  go_wp2_with (first | (go_at_call 15; refine (has_is _ _ HK.out _).mono ?_; rintro e w2 ⟨rfl, rfl⟩) | (go_at_call 11; refine (alive_any _).mono ?_; rintro e w3 ⟨rfl, h3⟩))
  go_ret
  refine ⟨rfl, Below.trans (Below.trans hA0 (Below.mono (B := w1.heap.size) (w := w1) ?_ (Nat.le_of_lt hz0))) (h3.mono ?_)⟩
  · go_grown
  · simp only [World.size_alloc, World.size_drew]; omega

set_option maxHeartbeats 1000000 in
theorem does_no_2 (k d A B C n g x p y q z r : Int) (hk : known k = false) (hA : fm (x, p) = true) (hB : fm (y, q) = true) (hC : fm (z, r) = false) (w : World) :
    Calls Try.prog 4 #[.agg #[.int .i64 k, .int .i64 d, .int .i64 A, .int .i64 B, .int .i64 C, .int .i64 n, .int .i64 g], .agg #[.int .i64 x, .int .i64 p, .int .i64 y, .int .i64 q, .int .i64 z, .int .i64 r]] w fun e w' => e = .returned (.bool true) ∧ Below w.heap.size w w' := by
  have HK := Lib.hid hk
  have HA := Lib.hid hA
  have HB := Lib.hid hB
  have HC := Lib.hid hC
  have hg : fm3 (x, p) (y, q) (z, r) = false := by simp [fm3, hA, hB, hC]
  have HV := Lib.hid (show doV k n (x, p) (y, q) (z, r) = (0, 0) by simp [doV, hk])
  have HT := Lib.hid (show doT k (x, p) (y, q) (z, r) = 0 by simp [doT, hk])
  have HE := Lib.hid (show doE k (x, p) (y, q) (z, r) = 2 by simp [doE, hk])
  clear hg
  clear hk hA hB hC
  go_enter Try.func4, Try.ntmps4
  go_wp2_with fail
  refine (do_is _ _ _ _ _ _ _ _ _ _ _ _ _ _ _ _ _ HV.out HT.out HE.out _).mono ?_
  rintro e' w1 ⟨rfl, hb⟩
  have hA0 : Below w.heap.size w w1 := by refine Below.trans ?_ (hb.mono ?_) <;> go_grown
  obtain ⟨hc, hf⟩ := bcell hb
  have hz := hb.size
  clear hb
  simp only [World.size_alloc] at hc hf hz
  have o10 := hc (w.heap.size) 0 (by omega)
  have o11 := hc (w.heap.size) 1 (by omega)
  have o12 := hc (w.heap.size) 2 (by omega)
  have o13 := hc (w.heap.size) 3 (by omega)
  have o14 := hc (w.heap.size) 4 (by omega)
  have o15 := hc (w.heap.size) 5 (by omega)
  have o16 := hc (w.heap.size) 6 (by omega)
  have t10 := hc (w.heap.size + 1) 0 (by omega)
  have t11 := hc (w.heap.size + 1) 1 (by omega)
  have t12 := hc (w.heap.size + 1) 2 (by omega)
  have t13 := hc (w.heap.size + 1) 3 (by omega)
  have t14 := hc (w.heap.size + 1) 4 (by omega)
  have t15 := hc (w.heap.size + 1) 5 (by omega)
  have hz1 : w.heap.size + 1 < w1.heap.size := by omega
  have hz0 : w.heap.size < w1.heap.size := by omega
  have hy1 : w.heap.size < w1.heap.size + 1 := by omega
  have hy2 : w.heap.size < w1.heap.size + 1 + 1 := by omega
  have hy3 : w.heap.size < w1.heap.size + 1 + 1 + 1 := by omega
  have hy4 : w.heap.size < w1.heap.size + 1 + 1 + 1 + 1 := by omega
  have hy5 : w.heap.size < w1.heap.size + 1 + 1 + 1 + 1 + 1 := by omega
  have hy6 : w.heap.size < w1.heap.size + 1 + 1 + 1 + 1 + 1 + 1 := by omega
  clear hc hf hz
  simp [go_sem] at o10 o11 o12 o13 o14 o15 o16 t10 t11 t12 t13 t14 t15
  go_wp2_with (go_at_call 13; ((first | (with_reducible refine (rformed_is _ _ _ HA.out _).mono ?_) | (with_reducible refine (rformed_is _ _ _ HB.out _).mono ?_) | (with_reducible refine (rformed_is _ _ _ HC.out _).mono ?_)); rintro e w' ⟨rfl, rfl⟩))
  go_region_held3 (fun w' => w'.cell? ⟨w.heap.size + 1, 0, none⟩ = some (.int .i64 x) ∧ w'.cell? ⟨w.heap.size + 1, 1, none⟩ = some (.int .i64 p)) ((refine ⟨cell_later (w := w1) ?_ t10, cell_later (w := w1) ?_ t11⟩ <;> go_grown))
    (first | (go_at_call 13; refine (rformed_is _ _ _ HA.out _).mono ?_; rintro e w' ⟨rfl, rfl⟩) | (go_at_call 14; refine (formed_is _ _ _ HA.out _).mono ?_; rintro e w' ⟨rfl, rfl⟩))
  go_wp2_with (first | (go_at_call 15; refine (has_is _ _ HK.out _).mono ?_; rintro e w2 ⟨rfl, rfl⟩) | (go_at_call 11; refine (alive_any _).mono ?_; rintro e w3 ⟨rfl, h3⟩))
  go_ret
  refine ⟨rfl, Below.trans (Below.trans hA0 (Below.mono (B := w1.heap.size) (w := w1) ?_ (Nat.le_of_lt hz0))) (h3.mono ?_)⟩
  · go_grown
  · simp only [World.size_alloc, World.size_drew]; omega

set_option maxHeartbeats 1000000 in
theorem does_no_3 (k d A B C n g x p y q z r : Int) (hk : known k = false) (hA : fm (x, p) = true) (hB : fm (y, q) = true) (hC : fm (z, r) = true) (w : World) :
    Calls Try.prog 4 #[.agg #[.int .i64 k, .int .i64 d, .int .i64 A, .int .i64 B, .int .i64 C, .int .i64 n, .int .i64 g], .agg #[.int .i64 x, .int .i64 p, .int .i64 y, .int .i64 q, .int .i64 z, .int .i64 r]] w fun e w' => e = .returned (.bool true) ∧ Below w.heap.size w w' := by
  have HK := Lib.hid hk
  have HA := Lib.hid hA
  have HB := Lib.hid hB
  have HC := Lib.hid hC
  have hg : fm3 (x, p) (y, q) (z, r) = true := by simp [fm3, hA, hB, hC]
  have HV := Lib.hid (show doV k n (x, p) (y, q) (z, r) = (0, 0) by simp [doV, hk])
  have HT := Lib.hid (show doT k (x, p) (y, q) (z, r) = 0 by simp [doT, hk])
  have HE := Lib.hid (show doE k (x, p) (y, q) (z, r) = 2 by simp [doE, hk])
  clear hg
  clear hk hA hB hC
  go_enter Try.func4, Try.ntmps4
  go_wp2_with fail
  refine (do_is _ _ _ _ _ _ _ _ _ _ _ _ _ _ _ _ _ HV.out HT.out HE.out _).mono ?_
  rintro e' w1 ⟨rfl, hb⟩
  have hA0 : Below w.heap.size w w1 := by refine Below.trans ?_ (hb.mono ?_) <;> go_grown
  obtain ⟨hc, hf⟩ := bcell hb
  have hz := hb.size
  clear hb
  simp only [World.size_alloc] at hc hf hz
  have o10 := hc (w.heap.size) 0 (by omega)
  have o11 := hc (w.heap.size) 1 (by omega)
  have o12 := hc (w.heap.size) 2 (by omega)
  have o13 := hc (w.heap.size) 3 (by omega)
  have o14 := hc (w.heap.size) 4 (by omega)
  have o15 := hc (w.heap.size) 5 (by omega)
  have o16 := hc (w.heap.size) 6 (by omega)
  have t10 := hc (w.heap.size + 1) 0 (by omega)
  have t11 := hc (w.heap.size + 1) 1 (by omega)
  have t12 := hc (w.heap.size + 1) 2 (by omega)
  have t13 := hc (w.heap.size + 1) 3 (by omega)
  have t14 := hc (w.heap.size + 1) 4 (by omega)
  have t15 := hc (w.heap.size + 1) 5 (by omega)
  have hz1 : w.heap.size + 1 < w1.heap.size := by omega
  have hz0 : w.heap.size < w1.heap.size := by omega
  have hy1 : w.heap.size < w1.heap.size + 1 := by omega
  have hy2 : w.heap.size < w1.heap.size + 1 + 1 := by omega
  have hy3 : w.heap.size < w1.heap.size + 1 + 1 + 1 := by omega
  have hy4 : w.heap.size < w1.heap.size + 1 + 1 + 1 + 1 := by omega
  have hy5 : w.heap.size < w1.heap.size + 1 + 1 + 1 + 1 + 1 := by omega
  have hy6 : w.heap.size < w1.heap.size + 1 + 1 + 1 + 1 + 1 + 1 := by omega
  clear hc hf hz
  simp [go_sem] at o10 o11 o12 o13 o14 o15 o16 t10 t11 t12 t13 t14 t15
  go_wp2_with (go_at_call 13; ((first | (with_reducible refine (rformed_is _ _ _ HA.out _).mono ?_) | (with_reducible refine (rformed_is _ _ _ HB.out _).mono ?_) | (with_reducible refine (rformed_is _ _ _ HC.out _).mono ?_)); rintro e w' ⟨rfl, rfl⟩))
  go_region_held3 (fun w' => w'.cell? ⟨w.heap.size + 1, 0, none⟩ = some (.int .i64 x) ∧ w'.cell? ⟨w.heap.size + 1, 1, none⟩ = some (.int .i64 p)) ((refine ⟨cell_later (w := w1) ?_ t10, cell_later (w := w1) ?_ t11⟩ <;> go_grown))
    (first | (go_at_call 13; refine (rformed_is _ _ _ HA.out _).mono ?_; rintro e w' ⟨rfl, rfl⟩) | (go_at_call 14; refine (formed_is _ _ _ HA.out _).mono ?_; rintro e w' ⟨rfl, rfl⟩))
  go_wp2_with (first | (go_at_call 15; refine (has_is _ _ HK.out _).mono ?_; rintro e w2 ⟨rfl, rfl⟩) | (go_at_call 11; refine (alive_any _).mono ?_; rintro e w3 ⟨rfl, h3⟩))
  go_ret
  refine ⟨rfl, Below.trans (Below.trans hA0 (Below.mono (B := w1.heap.size) (w := w1) ?_ (Nat.le_of_lt hz0))) (h3.mono ?_)⟩
  · go_grown
  · simp only [World.size_alloc, World.size_drew]; omega

set_option maxHeartbeats 1000000 in
theorem does_yes_0 (k d A B C n g x p y q z r : Int) (hk : known k = true) (hA : fm (x, p) = false) (w : World) :
    Calls Try.prog 4 #[.agg #[.int .i64 k, .int .i64 d, .int .i64 A, .int .i64 B, .int .i64 C, .int .i64 n, .int .i64 g], .agg #[.int .i64 x, .int .i64 p, .int .i64 y, .int .i64 q, .int .i64 z, .int .i64 r]] w fun e w' => e = .returned (.bool true) ∧ Below w.heap.size w w' := by
  have HK := Lib.hid hk
  have HA := Lib.hid hA
  have hg : fm3 (x, p) (y, q) (z, r) = false := by simp [fm3, hA]
  have HV := Lib.hid (show doV k n (x, p) (y, q) (z, r) = (0, 0) by simp [doV, hg])
  have HT := Lib.hid (show doT k (x, p) (y, q) (z, r) = 0 by simp [doT, hg])
  have HE := Lib.hid (show doE k (x, p) (y, q) (z, r) = 4 by simp [doE, hk, hg])
  clear hg
  clear hk hA
  go_enter Try.func4, Try.ntmps4
  go_wp2_with fail
  refine (do_is _ _ _ _ _ _ _ _ _ _ _ _ _ _ _ _ _ HV.out HT.out HE.out _).mono ?_
  rintro e' w1 ⟨rfl, hb⟩
  have hA0 : Below w.heap.size w w1 := by refine Below.trans ?_ (hb.mono ?_) <;> go_grown
  obtain ⟨hc, hf⟩ := bcell hb
  have hz := hb.size
  clear hb
  simp only [World.size_alloc] at hc hf hz
  have o10 := hc (w.heap.size) 0 (by omega)
  have o11 := hc (w.heap.size) 1 (by omega)
  have o12 := hc (w.heap.size) 2 (by omega)
  have o13 := hc (w.heap.size) 3 (by omega)
  have o14 := hc (w.heap.size) 4 (by omega)
  have o15 := hc (w.heap.size) 5 (by omega)
  have o16 := hc (w.heap.size) 6 (by omega)
  have t10 := hc (w.heap.size + 1) 0 (by omega)
  have t11 := hc (w.heap.size + 1) 1 (by omega)
  have t12 := hc (w.heap.size + 1) 2 (by omega)
  have t13 := hc (w.heap.size + 1) 3 (by omega)
  have t14 := hc (w.heap.size + 1) 4 (by omega)
  have t15 := hc (w.heap.size + 1) 5 (by omega)
  have hz1 : w.heap.size + 1 < w1.heap.size := by omega
  have hz0 : w.heap.size < w1.heap.size := by omega
  have hy1 : w.heap.size < w1.heap.size + 1 := by omega
  have hy2 : w.heap.size < w1.heap.size + 1 + 1 := by omega
  have hy3 : w.heap.size < w1.heap.size + 1 + 1 + 1 := by omega
  have hy4 : w.heap.size < w1.heap.size + 1 + 1 + 1 + 1 := by omega
  have hy5 : w.heap.size < w1.heap.size + 1 + 1 + 1 + 1 + 1 := by omega
  have hy6 : w.heap.size < w1.heap.size + 1 + 1 + 1 + 1 + 1 + 1 := by omega
  clear hc hf hz
  simp [go_sem] at o10 o11 o12 o13 o14 o15 o16 t10 t11 t12 t13 t14 t15
  go_wp2_with (go_at_call 13; ((first | (with_reducible refine (rformed_is _ _ _ HA.out _).mono ?_) | (with_reducible refine (rformed_is _ _ _ HB.out _).mono ?_) | (with_reducible refine (rformed_is _ _ _ HC.out _).mono ?_)); rintro e w' ⟨rfl, rfl⟩))
  go_region_held3 (fun w' => w'.cell? ⟨w.heap.size + 1, 0, none⟩ = some (.int .i64 x) ∧ w'.cell? ⟨w.heap.size + 1, 1, none⟩ = some (.int .i64 p)) ((refine ⟨cell_later (w := w1) ?_ t10, cell_later (w := w1) ?_ t11⟩ <;> go_grown))
    (first | (go_at_call 13; refine (rformed_is _ _ _ HA.out _).mono ?_; rintro e w' ⟨rfl, rfl⟩) | (go_at_call 14; refine (formed_is _ _ _ HA.out _).mono ?_; rintro e w' ⟨rfl, rfl⟩))
  go_wp2_with (first | (go_at_call 15; refine (has_is _ _ HK.out _).mono ?_; rintro e w2 ⟨rfl, rfl⟩) | (go_at_call 11; refine (alive_any _).mono ?_; rintro e w3 ⟨rfl, h3⟩))
  go_ret
  refine ⟨rfl, Below.trans (Below.trans hA0 (Below.mono (B := w1.heap.size) (w := w1) ?_ (Nat.le_of_lt hz0))) (h3.mono ?_)⟩
  · go_grown
  · simp only [World.size_alloc, World.size_drew]; omega

set_option maxHeartbeats 1000000 in
theorem does_yes_1 (k d A B C n g x p y q z r : Int) (hk : known k = true) (hA : fm (x, p) = true) (hB : fm (y, q) = false) (w : World) :
    Calls Try.prog 4 #[.agg #[.int .i64 k, .int .i64 d, .int .i64 A, .int .i64 B, .int .i64 C, .int .i64 n, .int .i64 g], .agg #[.int .i64 x, .int .i64 p, .int .i64 y, .int .i64 q, .int .i64 z, .int .i64 r]] w fun e w' => e = .returned (.bool true) ∧ Below w.heap.size w w' := by
  have HK := Lib.hid hk
  have HA := Lib.hid hA
  have HB := Lib.hid hB
  have hg : fm3 (x, p) (y, q) (z, r) = false := by simp [fm3, hA, hB]
  have HV := Lib.hid (show doV k n (x, p) (y, q) (z, r) = (0, 0) by simp [doV, hg])
  have HT := Lib.hid (show doT k (x, p) (y, q) (z, r) = 0 by simp [doT, hg])
  have HE := Lib.hid (show doE k (x, p) (y, q) (z, r) = 4 by simp [doE, hk, hg])
  clear hg
  clear hk hA hB
  go_enter Try.func4, Try.ntmps4
  go_wp2_with fail
  refine (do_is _ _ _ _ _ _ _ _ _ _ _ _ _ _ _ _ _ HV.out HT.out HE.out _).mono ?_
  rintro e' w1 ⟨rfl, hb⟩
  have hA0 : Below w.heap.size w w1 := by refine Below.trans ?_ (hb.mono ?_) <;> go_grown
  obtain ⟨hc, hf⟩ := bcell hb
  have hz := hb.size
  clear hb
  simp only [World.size_alloc] at hc hf hz
  have o10 := hc (w.heap.size) 0 (by omega)
  have o11 := hc (w.heap.size) 1 (by omega)
  have o12 := hc (w.heap.size) 2 (by omega)
  have o13 := hc (w.heap.size) 3 (by omega)
  have o14 := hc (w.heap.size) 4 (by omega)
  have o15 := hc (w.heap.size) 5 (by omega)
  have o16 := hc (w.heap.size) 6 (by omega)
  have t10 := hc (w.heap.size + 1) 0 (by omega)
  have t11 := hc (w.heap.size + 1) 1 (by omega)
  have t12 := hc (w.heap.size + 1) 2 (by omega)
  have t13 := hc (w.heap.size + 1) 3 (by omega)
  have t14 := hc (w.heap.size + 1) 4 (by omega)
  have t15 := hc (w.heap.size + 1) 5 (by omega)
  have hz1 : w.heap.size + 1 < w1.heap.size := by omega
  have hz0 : w.heap.size < w1.heap.size := by omega
  have hy1 : w.heap.size < w1.heap.size + 1 := by omega
  have hy2 : w.heap.size < w1.heap.size + 1 + 1 := by omega
  have hy3 : w.heap.size < w1.heap.size + 1 + 1 + 1 := by omega
  have hy4 : w.heap.size < w1.heap.size + 1 + 1 + 1 + 1 := by omega
  have hy5 : w.heap.size < w1.heap.size + 1 + 1 + 1 + 1 + 1 := by omega
  have hy6 : w.heap.size < w1.heap.size + 1 + 1 + 1 + 1 + 1 + 1 := by omega
  clear hc hf hz
  simp [go_sem] at o10 o11 o12 o13 o14 o15 o16 t10 t11 t12 t13 t14 t15
  go_wp2_with (go_at_call 13; ((first | (with_reducible refine (rformed_is _ _ _ HA.out _).mono ?_) | (with_reducible refine (rformed_is _ _ _ HB.out _).mono ?_) | (with_reducible refine (rformed_is _ _ _ HC.out _).mono ?_)); rintro e w' ⟨rfl, rfl⟩))
  go_region_held3 (fun w' => w'.cell? ⟨w.heap.size + 1, 0, none⟩ = some (.int .i64 x) ∧ w'.cell? ⟨w.heap.size + 1, 1, none⟩ = some (.int .i64 p)) ((refine ⟨cell_later (w := w1) ?_ t10, cell_later (w := w1) ?_ t11⟩ <;> go_grown))
    (first | (go_at_call 13; refine (rformed_is _ _ _ HA.out _).mono ?_; rintro e w' ⟨rfl, rfl⟩) | (go_at_call 14; refine (formed_is _ _ _ HA.out _).mono ?_; rintro e w' ⟨rfl, rfl⟩))
  go_wp2_with (first | (go_at_call 15; refine (has_is _ _ HK.out _).mono ?_; rintro e w2 ⟨rfl, rfl⟩) | (go_at_call 11; refine (alive_any _).mono ?_; rintro e w3 ⟨rfl, h3⟩))
  go_ret
  refine ⟨rfl, Below.trans (Below.trans hA0 (Below.mono (B := w1.heap.size) (w := w1) ?_ (Nat.le_of_lt hz0))) (h3.mono ?_)⟩
  · go_grown
  · simp only [World.size_alloc, World.size_drew]; omega

set_option maxHeartbeats 1000000 in
theorem does_yes_2 (k d A B C n g x p y q z r : Int) (hk : known k = true) (hA : fm (x, p) = true) (hB : fm (y, q) = true) (hC : fm (z, r) = false) (w : World) :
    Calls Try.prog 4 #[.agg #[.int .i64 k, .int .i64 d, .int .i64 A, .int .i64 B, .int .i64 C, .int .i64 n, .int .i64 g], .agg #[.int .i64 x, .int .i64 p, .int .i64 y, .int .i64 q, .int .i64 z, .int .i64 r]] w fun e w' => e = .returned (.bool true) ∧ Below w.heap.size w w' := by
  have HK := Lib.hid hk
  have HA := Lib.hid hA
  have HB := Lib.hid hB
  have HC := Lib.hid hC
  have hg : fm3 (x, p) (y, q) (z, r) = false := by simp [fm3, hA, hB, hC]
  have HV := Lib.hid (show doV k n (x, p) (y, q) (z, r) = (0, 0) by simp [doV, hg])
  have HT := Lib.hid (show doT k (x, p) (y, q) (z, r) = 0 by simp [doT, hg])
  have HE := Lib.hid (show doE k (x, p) (y, q) (z, r) = 4 by simp [doE, hk, hg])
  clear hg
  clear hk hA hB hC
  go_enter Try.func4, Try.ntmps4
  go_wp2_with fail
  refine (do_is _ _ _ _ _ _ _ _ _ _ _ _ _ _ _ _ _ HV.out HT.out HE.out _).mono ?_
  rintro e' w1 ⟨rfl, hb⟩
  have hA0 : Below w.heap.size w w1 := by refine Below.trans ?_ (hb.mono ?_) <;> go_grown
  obtain ⟨hc, hf⟩ := bcell hb
  have hz := hb.size
  clear hb
  simp only [World.size_alloc] at hc hf hz
  have o10 := hc (w.heap.size) 0 (by omega)
  have o11 := hc (w.heap.size) 1 (by omega)
  have o12 := hc (w.heap.size) 2 (by omega)
  have o13 := hc (w.heap.size) 3 (by omega)
  have o14 := hc (w.heap.size) 4 (by omega)
  have o15 := hc (w.heap.size) 5 (by omega)
  have o16 := hc (w.heap.size) 6 (by omega)
  have t10 := hc (w.heap.size + 1) 0 (by omega)
  have t11 := hc (w.heap.size + 1) 1 (by omega)
  have t12 := hc (w.heap.size + 1) 2 (by omega)
  have t13 := hc (w.heap.size + 1) 3 (by omega)
  have t14 := hc (w.heap.size + 1) 4 (by omega)
  have t15 := hc (w.heap.size + 1) 5 (by omega)
  have hz1 : w.heap.size + 1 < w1.heap.size := by omega
  have hz0 : w.heap.size < w1.heap.size := by omega
  have hy1 : w.heap.size < w1.heap.size + 1 := by omega
  have hy2 : w.heap.size < w1.heap.size + 1 + 1 := by omega
  have hy3 : w.heap.size < w1.heap.size + 1 + 1 + 1 := by omega
  have hy4 : w.heap.size < w1.heap.size + 1 + 1 + 1 + 1 := by omega
  have hy5 : w.heap.size < w1.heap.size + 1 + 1 + 1 + 1 + 1 := by omega
  have hy6 : w.heap.size < w1.heap.size + 1 + 1 + 1 + 1 + 1 + 1 := by omega
  clear hc hf hz
  simp [go_sem] at o10 o11 o12 o13 o14 o15 o16 t10 t11 t12 t13 t14 t15
  go_wp2_with (go_at_call 13; ((first | (with_reducible refine (rformed_is _ _ _ HA.out _).mono ?_) | (with_reducible refine (rformed_is _ _ _ HB.out _).mono ?_) | (with_reducible refine (rformed_is _ _ _ HC.out _).mono ?_)); rintro e w' ⟨rfl, rfl⟩))
  go_region_held3 (fun w' => w'.cell? ⟨w.heap.size + 1, 0, none⟩ = some (.int .i64 x) ∧ w'.cell? ⟨w.heap.size + 1, 1, none⟩ = some (.int .i64 p)) ((refine ⟨cell_later (w := w1) ?_ t10, cell_later (w := w1) ?_ t11⟩ <;> go_grown))
    (first | (go_at_call 13; refine (rformed_is _ _ _ HA.out _).mono ?_; rintro e w' ⟨rfl, rfl⟩) | (go_at_call 14; refine (formed_is _ _ _ HA.out _).mono ?_; rintro e w' ⟨rfl, rfl⟩))
  go_wp2_with (first | (go_at_call 15; refine (has_is _ _ HK.out _).mono ?_; rintro e w2 ⟨rfl, rfl⟩) | (go_at_call 11; refine (alive_any _).mono ?_; rintro e w3 ⟨rfl, h3⟩))
  go_ret
  refine ⟨rfl, Below.trans (Below.trans hA0 (Below.mono (B := w1.heap.size) (w := w1) ?_ (Nat.le_of_lt hz0))) (h3.mono ?_)⟩
  · go_grown
  · simp only [World.size_alloc, World.size_drew]; omega

set_option maxHeartbeats 1000000 in
theorem does_yes_3 (k d A B C n g x p y q z r : Int) (hk : known k = true) (hA : fm (x, p) = true) (hB : fm (y, q) = true) (hC : fm (z, r) = true) (v1 v2 t e : Int) (hv : doV k n (x, p) (y, q) (z, r) = (v1, v2)) (ht : doT k (x, p) (y, q) (z, r) = t) (he : doE k (x, p) (y, q) (z, r) = e) (w : World) :
    Calls Try.prog 4 #[.agg #[.int .i64 k, .int .i64 d, .int .i64 A, .int .i64 B, .int .i64 C, .int .i64 n, .int .i64 g], .agg #[.int .i64 x, .int .i64 p, .int .i64 y, .int .i64 q, .int .i64 z, .int .i64 r]] w fun e w' => e = .returned (.bool true) ∧ Below w.heap.size w w' := by
  have HK := Lib.hid hk
  have HA := Lib.hid hA
  have HB := Lib.hid hB
  have HC := Lib.hid hC
  have hg : fm3 (x, p) (y, q) (z, r) = true := by simp [fm3, hA, hB, hC]
  have e1 : doV k n (x, p) (y, q) (z, r) = doV0 k n (x, p) (y, q) (z, r) := by simp [doV, hk, hg]
  have e2 : doT k (x, p) (y, q) (z, r) = doT0 k (x, p) (y, q) := by simp [doT, hk, hg]
  have hr : ∀ w, Calls Try.prog 16 #[.agg #[.int .i64 k, .int .i64 d, .int .i64 A, .int .i64 B, .int .i64 C, .int .i64 n, .int .i64 g], .agg #[.int .i64 x, .int .i64 p], .agg #[.int .i64 y, .int .i64 q], .agg #[.int .i64 z, .int .i64 r]] w
      fun e w' => e = .returned (.tuple #[.agg #[.int .i64 v1, .int .i64 v2], .int .i64 t]) ∧ Below w.heap.size w w' := fun w => rdo_is k d A B C n g x p y q z r v1 v2 t hk hg (e1 ▸ hv) (e2 ▸ ht) w
  have HR := Lib.hid hr
  obtain rfl : e = 0 := by rw [← he]; simp [doE, hk, hg]
  have HV := Lib.hid hv
  have HT := Lib.hid ht
  have HE := Lib.hid he
  clear hr e1 e2 hg hv ht he
  clear hk hA hB hC
  go_enter Try.func4, Try.ntmps4
  go_wp2_with fail
  refine (do_is _ _ _ _ _ _ _ _ _ _ _ _ _ _ _ _ _ HV.out HT.out HE.out _).mono ?_
  rintro e' w1 ⟨rfl, hb⟩
  have hA0 : Below w.heap.size w w1 := by refine Below.trans ?_ (hb.mono ?_) <;> go_grown
  obtain ⟨hc, hf⟩ := bcell hb
  have hz := hb.size
  clear hb
  simp only [World.size_alloc] at hc hf hz
  have o10 := hc (w.heap.size) 0 (by omega)
  have o11 := hc (w.heap.size) 1 (by omega)
  have o12 := hc (w.heap.size) 2 (by omega)
  have o13 := hc (w.heap.size) 3 (by omega)
  have o14 := hc (w.heap.size) 4 (by omega)
  have o15 := hc (w.heap.size) 5 (by omega)
  have o16 := hc (w.heap.size) 6 (by omega)
  have t10 := hc (w.heap.size + 1) 0 (by omega)
  have t11 := hc (w.heap.size + 1) 1 (by omega)
  have t12 := hc (w.heap.size + 1) 2 (by omega)
  have t13 := hc (w.heap.size + 1) 3 (by omega)
  have t14 := hc (w.heap.size + 1) 4 (by omega)
  have t15 := hc (w.heap.size + 1) 5 (by omega)
  have hz1 : w.heap.size + 1 < w1.heap.size := by omega
  have hz0 : w.heap.size < w1.heap.size := by omega
  have hy1 : w.heap.size < w1.heap.size + 1 := by omega
  have hy2 : w.heap.size < w1.heap.size + 1 + 1 := by omega
  have hy3 : w.heap.size < w1.heap.size + 1 + 1 + 1 := by omega
  have hy4 : w.heap.size < w1.heap.size + 1 + 1 + 1 + 1 := by omega
  have hy5 : w.heap.size < w1.heap.size + 1 + 1 + 1 + 1 + 1 := by omega
  have hy6 : w.heap.size < w1.heap.size + 1 + 1 + 1 + 1 + 1 + 1 := by omega
  clear hc hf hz
  simp [go_sem] at o10 o11 o12 o13 o14 o15 o16 t10 t11 t12 t13 t14 t15
  go_wp2_with (go_at_call 13; ((first | (with_reducible refine (rformed_is _ _ _ HA.out _).mono ?_) | (with_reducible refine (rformed_is _ _ _ HB.out _).mono ?_) | (with_reducible refine (rformed_is _ _ _ HC.out _).mono ?_)); rintro e w' ⟨rfl, rfl⟩))
  go_region_held3 (fun w' => w'.cell? ⟨w.heap.size + 1, 0, none⟩ = some (.int .i64 x) ∧ w'.cell? ⟨w.heap.size + 1, 1, none⟩ = some (.int .i64 p)) ((refine ⟨cell_later (w := w1) ?_ t10, cell_later (w := w1) ?_ t11⟩ <;> go_grown))
    (first | (go_at_call 13; refine (rformed_is _ _ _ HA.out _).mono ?_; rintro e w' ⟨rfl, rfl⟩) | (go_at_call 14; refine (formed_is _ _ _ HA.out _).mono ?_; rintro e w' ⟨rfl, rfl⟩))
  go_wp2_with (go_at_call 15; refine (has_is _ _ HK.out _).mono ?_; rintro e w2 ⟨rfl, rfl⟩)
  refine (HR.out _).mono ?_
  rintro e2 w2 ⟨rfl, hb2⟩
  have c0 : w2.cell? ⟨w1.heap.size, 0, none⟩ = some (.int .i64 v1) := cell_later hb2 (cell_later (w := w1.alloc (.cells #[.int .i64 v1, .int .i64 v2] 32)) (by go_grown) (by simp))
  have c1 : w2.cell? ⟨w1.heap.size, 1, none⟩ = some (.int .i64 v2) := cell_later hb2 (cell_later (w := w1.alloc (.cells #[.int .i64 v1, .int .i64 v2] 32)) (by go_grown) (by simp))
  have hz2 : w1.heap.size < w2.heap.size := by have := hb2.size; simp only [World.size_alloc, World.size_drew] at this; omega
  have hA2 : Below w.heap.size w w2 := by
    refine Below.trans (Below.trans hA0 (Below.mono (B := w1.heap.size) (w := w1) ?_ (Nat.le_of_lt hz0))) (hb2.mono ?_)
    · go_grown
    · simp only [World.size_alloc, World.size_drew]; omega
  have HB2 := Lib.hid hb2
  clear hb2
  go_wp2_with (go_at_call 11; refine (alive_any _).mono ?_; rintro e w3 ⟨rfl, h3⟩)
  go_ret
  refine ⟨rfl, Below.trans (hA2.alloc ?_ _) (h3.mono ?_)⟩
  · omega
  · simp only [World.size_alloc]; omega

theorem law_does (k d A B C n g x p y q z r : Int) (w : World) :
    Calls Try.prog 4 #[.agg #[.int .i64 k, .int .i64 d, .int .i64 A, .int .i64 B, .int .i64 C, .int .i64 n, .int .i64 g], .agg #[.int .i64 x, .int .i64 p, .int .i64 y, .int .i64 q, .int .i64 z, .int .i64 r]] w fun e w' => e = .returned (.bool true) ∧ Below w.heap.size w w' := by
  cases hk : known k <;> cases hA : fm (x, p) <;> cases hB : fm (y, q) <;> cases hC : fm (z, r)
  · exact does_no_0 k d A B C n g x p y q z r hk hA w
  · exact does_no_0 k d A B C n g x p y q z r hk hA w
  · exact does_no_0 k d A B C n g x p y q z r hk hA w
  · exact does_no_0 k d A B C n g x p y q z r hk hA w
  · exact does_no_1 k d A B C n g x p y q z r hk hA hB w
  · exact does_no_1 k d A B C n g x p y q z r hk hA hB w
  · exact does_no_2 k d A B C n g x p y q z r hk hA hB hC w
  · exact does_no_3 k d A B C n g x p y q z r hk hA hB hC w
  · exact does_yes_0 k d A B C n g x p y q z r hk hA w
  · exact does_yes_0 k d A B C n g x p y q z r hk hA w
  · exact does_yes_0 k d A B C n g x p y q z r hk hA w
  · exact does_yes_0 k d A B C n g x p y q z r hk hA w
  · exact does_yes_1 k d A B C n g x p y q z r hk hA hB w
  · exact does_yes_1 k d A B C n g x p y q z r hk hA hB w
  · exact does_yes_2 k d A B C n g x p y q z r hk hA hB hC w
  · exact does_yes_3 k d A B C n g x p y q z r hk hA hB hC _ _ _ _ rfl rfl rfl w
end Go.Proofs.Ytlbfnmbodpfepaa
