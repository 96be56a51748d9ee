/- The walk of the law WordPoison, one for each way: whether the kind is one of two numbers, traps, is one of Do's, and what poison does to it. -/
import Derived.Test.YtlbfnmbodpfepaaWr
namespace Go.Proofs.Ytlbfnmbodpfepaa
open Go.RowKit

set_option maxRecDepth 100000 in
set_option maxHeartbeats 4000000 in
theorem poison_11 (k d A B C n g a b : Int) (m : Int) (hn : mN k a b = m) (ht : mT k b = 0) (he : mE k = 0) (hv : doV k n (a, 0) (b, 0) (0, 0) = (m, 0)) (hu : doT k (a, 0) (b, 0) (0, 0) = 0) (hf : doE k (a, 0) (b, 0) (0, 0) = 0) (w : World) :
    Calls Try.prog 8 #[.agg #[.int .i64 k, .int .i64 d, .int .i64 A, .int .i64 B, .int .i64 C, .int .i64 n, .int .i64 g], .int .i64 a, .int .i64 b, .int .i64 0] w fun e w' => e = .returned (.bool true) ∧ Below w.heap.size w w' := by
  have HN := Lib.hid hn
  have HT := Lib.hid ht
  have HE := Lib.hid he
  have HV := Lib.hid hv
  have HU := Lib.hid hu
  have HF := Lib.hid hf
  clear hn ht he hv hu hf
  go_enter Try.func8, Try.ntmps8
  go_wp2_with fail
  refine (math_is _ _ _ _ _ _ HN.out HT.out HE.out _).mono ?_
  rintro e w1 ⟨rfl, hb1⟩
  have o10 : w1.cell? ⟨w.heap.size, 0, none⟩ = some (.int .i64 k) := cell_later hb1 (by simp)
  have o11 : w1.cell? ⟨w.heap.size, 1, none⟩ = some (.int .i64 d) := cell_later hb1 (by simp)
  have o12 : w1.cell? ⟨w.heap.size, 2, none⟩ = some (.int .i64 A) := cell_later hb1 (by simp)
  have o13 : w1.cell? ⟨w.heap.size, 3, none⟩ = some (.int .i64 B) := cell_later hb1 (by simp)
  have o14 : w1.cell? ⟨w.heap.size, 4, none⟩ = some (.int .i64 C) := cell_later hb1 (by simp)
  have o15 : w1.cell? ⟨w.heap.size, 5, none⟩ = some (.int .i64 n) := cell_later hb1 (by simp)
  have o16 : w1.cell? ⟨w.heap.size, 6, none⟩ = some (.int .i64 g) := cell_later hb1 (by simp)
  have hz1 : w.heap.size < w1.heap.size := by have := hb1.size; simp only [World.size_alloc] at this; omega
  have hB1 : Below w.heap.size w w1 := by refine Below.trans ?_ (hb1.mono ?_) <;> go_grown
  clear hb1
  go_wp2_with fail
  refine (do_is _ _ _ _ _ _ _ _ _ _ _ _ _ _ _ _ _ HV.out HU.out HF.out _).mono ?_
  rintro e w2 ⟨rfl, hb2⟩
  have o20 : w2.cell? ⟨w.heap.size, 0, none⟩ = some (.int .i64 k) := cell_later hb2 o10
  have o21 : w2.cell? ⟨w.heap.size, 1, none⟩ = some (.int .i64 d) := cell_later hb2 o11
  have o22 : w2.cell? ⟨w.heap.size, 2, none⟩ = some (.int .i64 A) := cell_later hb2 o12
  have o23 : w2.cell? ⟨w.heap.size, 3, none⟩ = some (.int .i64 B) := cell_later hb2 o13
  have o24 : w2.cell? ⟨w.heap.size, 4, none⟩ = some (.int .i64 C) := cell_later hb2 o14
  have o25 : w2.cell? ⟨w.heap.size, 5, none⟩ = some (.int .i64 n) := cell_later hb2 o15
  have o26 : w2.cell? ⟨w.heap.size, 6, none⟩ = some (.int .i64 g) := cell_later hb2 o16
  have hz2 : w.heap.size < w2.heap.size := by have := hb2.size; omega
  have hB2 : Below w.heap.size w w2 := hB1.trans (hb2.mono (Nat.le_of_lt hz1))
  clear hb2
  go_wp2_with (first | (go_at_call 15; refine (has_is _ _ HK.out _).mono ?_; rintro e w8 ⟨rfl, rfl⟩) | (go_at_call 11; refine (alive_any _).mono ?_; rintro e w9 ⟨rfl, h9⟩))
  go_ret
  refine ⟨rfl, Below.trans (hB2.alloc (Nat.le_of_lt hz2) _) (h9.mono ?_)⟩
  simp only [World.size_alloc]; omega

set_option maxRecDepth 100000 in
set_option maxHeartbeats 4000000 in
theorem poison_15 (k d A B C n g a b bad : Int) (m : Int) (hn : mN k a b = m) (ht : mT k b = 0) (he : mE k = 0) (hv : doV k n (a, 0) (b, 0) (0, 0) = (m, 0)) (hu : doT k (a, 0) (b, 0) (0, 0) = 0) (hf : doE k (a, 0) (b, 0) (0, 0) = 0) (hbad : bad ≠ 0) (hk : known k = true) (h1 : k ≠ 1) (h2 : k ≠ 2) (hx : doV k n (0, bad) (b, 0) (a, 0) = (0, bad)) (hy : doT k (0, bad) (b, 0) (a, 0) = 0) (hg : doE k (0, bad) (b, 0) (a, 0) = 0) (hz : doV k n (1, 0) (0, bad) (a, 0) = (0, bad)) (hw : doT k (1, 0) (0, bad) (a, 0) = 0) (hh : doE k (1, 0) (0, bad) (a, 0) = 0) (w : World) :
    Calls Try.prog 8 #[.agg #[.int .i64 k, .int .i64 d, .int .i64 A, .int .i64 B, .int .i64 C, .int .i64 n, .int .i64 g], .int .i64 a, .int .i64 b, .int .i64 bad] w fun e w' => e = .returned (.bool true) ∧ Below w.heap.size w w' := by
  have d1 : (k == 1) = false := by simp [h1]
  have d2 : (k == 2) = false := by simp [h2]
  have HN := Lib.hid hn
  have HT := Lib.hid ht
  have HE := Lib.hid he
  have HV := Lib.hid hv
  have HU := Lib.hid hu
  have HF := Lib.hid hf
  have HK := Lib.hid hk
  have HX := Lib.hid hx
  have HY := Lib.hid hy
  have HG := Lib.hid hg
  have HZ := Lib.hid hz
  have HW := Lib.hid hw
  have HH := Lib.hid hh
  clear hn ht he hv hu hf hk hx hy hg hz hw hh h1 h2
  go_enter Try.func8, Try.ntmps8
  go_wp2_with fail
  refine (math_is _ _ _ _ _ _ HN.out HT.out HE.out _).mono ?_
  rintro e w1 ⟨rfl, hb1⟩
  have o10 : w1.cell? ⟨w.heap.size, 0, none⟩ = some (.int .i64 k) := cell_later hb1 (by simp)
  have o11 : w1.cell? ⟨w.heap.size, 1, none⟩ = some (.int .i64 d) := cell_later hb1 (by simp)
  have o12 : w1.cell? ⟨w.heap.size, 2, none⟩ = some (.int .i64 A) := cell_later hb1 (by simp)
  have o13 : w1.cell? ⟨w.heap.size, 3, none⟩ = some (.int .i64 B) := cell_later hb1 (by simp)
  have o14 : w1.cell? ⟨w.heap.size, 4, none⟩ = some (.int .i64 C) := cell_later hb1 (by simp)
  have o15 : w1.cell? ⟨w.heap.size, 5, none⟩ = some (.int .i64 n) := cell_later hb1 (by simp)
  have o16 : w1.cell? ⟨w.heap.size, 6, none⟩ = some (.int .i64 g) := cell_later hb1 (by simp)
  have hz1 : w.heap.size < w1.heap.size := by have := hb1.size; simp only [World.size_alloc] at this; omega
  have hB1 : Below w.heap.size w w1 := by refine Below.trans ?_ (hb1.mono ?_) <;> go_grown
  clear hb1
  go_wp2_with fail
  refine (do_is _ _ _ _ _ _ _ _ _ _ _ _ _ _ _ _ _ HV.out HU.out HF.out _).mono ?_
  rintro e w2 ⟨rfl, hb2⟩
  have o20 : w2.cell? ⟨w.heap.size, 0, none⟩ = some (.int .i64 k) := cell_later hb2 o10
  have o21 : w2.cell? ⟨w.heap.size, 1, none⟩ = some (.int .i64 d) := cell_later hb2 o11
  have o22 : w2.cell? ⟨w.heap.size, 2, none⟩ = some (.int .i64 A) := cell_later hb2 o12
  have o23 : w2.cell? ⟨w.heap.size, 3, none⟩ = some (.int .i64 B) := cell_later hb2 o13
  have o24 : w2.cell? ⟨w.heap.size, 4, none⟩ = some (.int .i64 C) := cell_later hb2 o14
  have o25 : w2.cell? ⟨w.heap.size, 5, none⟩ = some (.int .i64 n) := cell_later hb2 o15
  have o26 : w2.cell? ⟨w.heap.size, 6, none⟩ = some (.int .i64 g) := cell_later hb2 o16
  have hz2 : w.heap.size < w2.heap.size := by have := hb2.size; omega
  have hB2 : Below w.heap.size w w2 := hB1.trans (hb2.mono (Nat.le_of_lt hz1))
  clear hb2
  go_wp2_with (go_at_call 15; refine (has_is _ _ HK.out _).mono ?_; rintro e w8 ⟨rfl, rfl⟩)
  refine (do_is _ _ _ _ _ _ _ _ _ _ _ _ _ _ _ _ _ HX.out HY.out HG.out _).mono ?_
  rintro e w3 ⟨rfl, hb3⟩
  have o30 : w3.cell? ⟨w.heap.size, 0, none⟩ = some (.int .i64 k) := cell_later hb3 (cell_later (w := w2) (by go_grown) o20)
  have o31 : w3.cell? ⟨w.heap.size, 1, none⟩ = some (.int .i64 d) := cell_later hb3 (cell_later (w := w2) (by go_grown) o21)
  have o32 : w3.cell? ⟨w.heap.size, 2, none⟩ = some (.int .i64 A) := cell_later hb3 (cell_later (w := w2) (by go_grown) o22)
  have o33 : w3.cell? ⟨w.heap.size, 3, none⟩ = some (.int .i64 B) := cell_later hb3 (cell_later (w := w2) (by go_grown) o23)
  have o34 : w3.cell? ⟨w.heap.size, 4, none⟩ = some (.int .i64 C) := cell_later hb3 (cell_later (w := w2) (by go_grown) o24)
  have o35 : w3.cell? ⟨w.heap.size, 5, none⟩ = some (.int .i64 n) := cell_later hb3 (cell_later (w := w2) (by go_grown) o25)
  have o36 : w3.cell? ⟨w.heap.size, 6, none⟩ = some (.int .i64 g) := cell_later hb3 (cell_later (w := w2) (by go_grown) o26)
  have hz3 : w.heap.size < w3.heap.size := by have := hb3.size; simp only [World.size_alloc] at this; omega
  have hB3 : Below w.heap.size w w3 := Below.trans (hB2.alloc (Nat.le_of_lt hz2) _) (hb3.mono (by simp only [World.size_alloc]; omega))
  clear hb3
  go_wp2_with fail
  refine (do_is _ _ _ _ _ _ _ _ _ _ _ _ _ _ _ _ _ HZ.out HW.out HH.out _).mono ?_
  rintro e w4 ⟨rfl, hb4⟩
  have o40 : w4.cell? ⟨w.heap.size, 0, none⟩ = some (.int .i64 k) := cell_later hb4 (cell_later (w := w3) (by go_grown) o30)
  have o41 : w4.cell? ⟨w.heap.size, 1, none⟩ = some (.int .i64 d) := cell_later hb4 (cell_later (w := w3) (by go_grown) o31)
  have o42 : w4.cell? ⟨w.heap.size, 2, none⟩ = some (.int .i64 A) := cell_later hb4 (cell_later (w := w3) (by go_grown) o32)
  have o43 : w4.cell? ⟨w.heap.size, 3, none⟩ = some (.int .i64 B) := cell_later hb4 (cell_later (w := w3) (by go_grown) o33)
  have o44 : w4.cell? ⟨w.heap.size, 4, none⟩ = some (.int .i64 C) := cell_later hb4 (cell_later (w := w3) (by go_grown) o34)
  have o45 : w4.cell? ⟨w.heap.size, 5, none⟩ = some (.int .i64 n) := cell_later hb4 (cell_later (w := w3) (by go_grown) o35)
  have o46 : w4.cell? ⟨w.heap.size, 6, none⟩ = some (.int .i64 g) := cell_later hb4 (cell_later (w := w3) (by go_grown) o36)
  have hz4 : w.heap.size < w4.heap.size := by have := hb4.size; simp only [World.size_alloc] at this; omega
  have hB4 : Below w.heap.size w w4 := Below.trans (hB3.alloc (Nat.le_of_lt hz3) _) (hb4.mono (by simp only [World.size_alloc]; omega))
  clear hb4
  go_wp2_with (go_at_call 11; refine (alive_any _).mono ?_; rintro e w9 ⟨rfl, h9⟩)
  go_ret
  refine ⟨rfl, Below.trans (hB4.alloc (Nat.le_of_lt hz4) _) (h9.mono ?_)⟩
  simp only [World.size_alloc]; omega

set_option maxRecDepth 100000 in
set_option maxHeartbeats 4000000 in
theorem poison_16 (k d A B C n g a b bad : Int) (m : Int) (hn : mN k a b = m) (ht : mT k b = 0) (he : mE k = 0) (hv : doV k n (a, 0) (b, 0) (0, 0) = (m, 0)) (hu : doT k (a, 0) (b, 0) (0, 0) = 0) (hf : doE k (a, 0) (b, 0) (0, 0) = 0) (hbad : bad ≠ 0) (hk : known k = true) (h1 : k ≠ 1) (h2 : k ≠ 2) (hx : doV k n (0, bad) (b, 0) (a, 0) = (0, 0)) (hy : doT k (0, bad) (b, 0) (a, 0) = bad) (hg : doE k (0, bad) (b, 0) (a, 0) = 0) (hz : doV k n (1, 0) (0, bad) (a, 0) = (0, 0)) (hw : doT k (1, 0) (0, bad) (a, 0) = bad) (hh : doE k (1, 0) (0, bad) (a, 0) = 0) (w : World) :
    Calls Try.prog 8 #[.agg #[.int .i64 k, .int .i64 d, .int .i64 A, .int .i64 B, .int .i64 C, .int .i64 n, .int .i64 g], .int .i64 a, .int .i64 b, .int .i64 bad] w fun e w' => e = .returned (.bool true) ∧ Below w.heap.size w w' := by
  have d1 : (k == 1) = false := by simp [h1]
  have d2 : (k == 2) = false := by simp [h2]
  have HN := Lib.hid hn
  have HT := Lib.hid ht
  have HE := Lib.hid he
  have HV := Lib.hid hv
  have HU := Lib.hid hu
  have HF := Lib.hid hf
  have HK := Lib.hid hk
  have HX := Lib.hid hx
  have HY := Lib.hid hy
  have HG := Lib.hid hg
  have HZ := Lib.hid hz
  have HW := Lib.hid hw
  have HH := Lib.hid hh
  clear hn ht he hv hu hf hk hx hy hg hz hw hh h1 h2
  go_enter Try.func8, Try.ntmps8
  go_wp2_with fail
  refine (math_is _ _ _ _ _ _ HN.out HT.out HE.out _).mono ?_
  rintro e w1 ⟨rfl, hb1⟩
  have o10 : w1.cell? ⟨w.heap.size, 0, none⟩ = some (.int .i64 k) := cell_later hb1 (by simp)
  have o11 : w1.cell? ⟨w.heap.size, 1, none⟩ = some (.int .i64 d) := cell_later hb1 (by simp)
  have o12 : w1.cell? ⟨w.heap.size, 2, none⟩ = some (.int .i64 A) := cell_later hb1 (by simp)
  have o13 : w1.cell? ⟨w.heap.size, 3, none⟩ = some (.int .i64 B) := cell_later hb1 (by simp)
  have o14 : w1.cell? ⟨w.heap.size, 4, none⟩ = some (.int .i64 C) := cell_later hb1 (by simp)
  have o15 : w1.cell? ⟨w.heap.size, 5, none⟩ = some (.int .i64 n) := cell_later hb1 (by simp)
  have o16 : w1.cell? ⟨w.heap.size, 6, none⟩ = some (.int .i64 g) := cell_later hb1 (by simp)
  have hz1 : w.heap.size < w1.heap.size := by have := hb1.size; simp only [World.size_alloc] at this; omega
  have hB1 : Below w.heap.size w w1 := by refine Below.trans ?_ (hb1.mono ?_) <;> go_grown
  clear hb1
  go_wp2_with fail
  refine (do_is _ _ _ _ _ _ _ _ _ _ _ _ _ _ _ _ _ HV.out HU.out HF.out _).mono ?_
  rintro e w2 ⟨rfl, hb2⟩
  have o20 : w2.cell? ⟨w.heap.size, 0, none⟩ = some (.int .i64 k) := cell_later hb2 o10
  have o21 : w2.cell? ⟨w.heap.size, 1, none⟩ = some (.int .i64 d) := cell_later hb2 o11
  have o22 : w2.cell? ⟨w.heap.size, 2, none⟩ = some (.int .i64 A) := cell_later hb2 o12
  have o23 : w2.cell? ⟨w.heap.size, 3, none⟩ = some (.int .i64 B) := cell_later hb2 o13
  have o24 : w2.cell? ⟨w.heap.size, 4, none⟩ = some (.int .i64 C) := cell_later hb2 o14
  have o25 : w2.cell? ⟨w.heap.size, 5, none⟩ = some (.int .i64 n) := cell_later hb2 o15
  have o26 : w2.cell? ⟨w.heap.size, 6, none⟩ = some (.int .i64 g) := cell_later hb2 o16
  have hz2 : w.heap.size < w2.heap.size := by have := hb2.size; omega
  have hB2 : Below w.heap.size w w2 := hB1.trans (hb2.mono (Nat.le_of_lt hz1))
  clear hb2
  go_wp2_with (go_at_call 15; refine (has_is _ _ HK.out _).mono ?_; rintro e w8 ⟨rfl, rfl⟩)
  refine (do_is _ _ _ _ _ _ _ _ _ _ _ _ _ _ _ _ _ HX.out HY.out HG.out _).mono ?_
  rintro e w3 ⟨rfl, hb3⟩
  have o30 : w3.cell? ⟨w.heap.size, 0, none⟩ = some (.int .i64 k) := cell_later hb3 (cell_later (w := w2) (by go_grown) o20)
  have o31 : w3.cell? ⟨w.heap.size, 1, none⟩ = some (.int .i64 d) := cell_later hb3 (cell_later (w := w2) (by go_grown) o21)
  have o32 : w3.cell? ⟨w.heap.size, 2, none⟩ = some (.int .i64 A) := cell_later hb3 (cell_later (w := w2) (by go_grown) o22)
  have o33 : w3.cell? ⟨w.heap.size, 3, none⟩ = some (.int .i64 B) := cell_later hb3 (cell_later (w := w2) (by go_grown) o23)
  have o34 : w3.cell? ⟨w.heap.size, 4, none⟩ = some (.int .i64 C) := cell_later hb3 (cell_later (w := w2) (by go_grown) o24)
  have o35 : w3.cell? ⟨w.heap.size, 5, none⟩ = some (.int .i64 n) := cell_later hb3 (cell_later (w := w2) (by go_grown) o25)
  have o36 : w3.cell? ⟨w.heap.size, 6, none⟩ = some (.int .i64 g) := cell_later hb3 (cell_later (w := w2) (by go_grown) o26)
  have hz3 : w.heap.size < w3.heap.size := by have := hb3.size; simp only [World.size_alloc] at this; omega
  have hB3 : Below w.heap.size w w3 := Below.trans (hB2.alloc (Nat.le_of_lt hz2) _) (hb3.mono (by simp only [World.size_alloc]; omega))
  clear hb3
  go_wp2_with fail
  refine (do_is _ _ _ _ _ _ _ _ _ _ _ _ _ _ _ _ _ HZ.out HW.out HH.out _).mono ?_
  rintro e w4 ⟨rfl, hb4⟩
  have o40 : w4.cell? ⟨w.heap.size, 0, none⟩ = some (.int .i64 k) := cell_later hb4 (cell_later (w := w3) (by go_grown) o30)
  have o41 : w4.cell? ⟨w.heap.size, 1, none⟩ = some (.int .i64 d) := cell_later hb4 (cell_later (w := w3) (by go_grown) o31)
  have o42 : w4.cell? ⟨w.heap.size, 2, none⟩ = some (.int .i64 A) := cell_later hb4 (cell_later (w := w3) (by go_grown) o32)
  have o43 : w4.cell? ⟨w.heap.size, 3, none⟩ = some (.int .i64 B) := cell_later hb4 (cell_later (w := w3) (by go_grown) o33)
  have o44 : w4.cell? ⟨w.heap.size, 4, none⟩ = some (.int .i64 C) := cell_later hb4 (cell_later (w := w3) (by go_grown) o34)
  have o45 : w4.cell? ⟨w.heap.size, 5, none⟩ = some (.int .i64 n) := cell_later hb4 (cell_later (w := w3) (by go_grown) o35)
  have o46 : w4.cell? ⟨w.heap.size, 6, none⟩ = some (.int .i64 g) := cell_later hb4 (cell_later (w := w3) (by go_grown) o36)
  have hz4 : w.heap.size < w4.heap.size := by have := hb4.size; simp only [World.size_alloc] at this; omega
  have hB4 : Below w.heap.size w w4 := Below.trans (hB3.alloc (Nat.le_of_lt hz3) _) (hb4.mono (by simp only [World.size_alloc]; omega))
  clear hb4
  go_wp2_with (go_at_call 11; refine (alive_any _).mono ?_; rintro e w9 ⟨rfl, h9⟩)
  go_ret
  refine ⟨rfl, Below.trans (hB4.alloc (Nat.le_of_lt hz4) _) (h9.mono ?_)⟩
  simp only [World.size_alloc]; omega

set_option maxRecDepth 100000 in
set_option maxHeartbeats 4000000 in
theorem poison_21 (k d A B C n g a b : Int) (m t : Int) (h0 : t ≠ 0) (hn : mN k a b = m) (ht : mT k b = t) (he : mE k = 0) (hv : doV k n (a, 0) (b, 0) (0, 0) = (0, 0)) (hu : doT k (a, 0) (b, 0) (0, 0) = t) (hf : doE k (a, 0) (b, 0) (0, 0) = 0) (w : World) :
    Calls Try.prog 8 #[.agg #[.int .i64 k, .int .i64 d, .int .i64 A, .int .i64 B, .int .i64 C, .int .i64 n, .int .i64 g], .int .i64 a, .int .i64 b, .int .i64 0] w fun e w' => e = .returned (.bool true) ∧ Below w.heap.size w w' := by
  have HN := Lib.hid hn
  have HT := Lib.hid ht
  have HE := Lib.hid he
  have HV := Lib.hid hv
  have HU := Lib.hid hu
  have HF := Lib.hid hf
  clear hn ht he hv hu hf
  go_enter Try.func8, Try.ntmps8
  go_wp2_with fail
  refine (math_is _ _ _ _ _ _ HN.out HT.out HE.out _).mono ?_
  rintro e w1 ⟨rfl, hb1⟩
  have o10 : w1.cell? ⟨w.heap.size, 0, none⟩ = some (.int .i64 k) := cell_later hb1 (by simp)
  have o11 : w1.cell? ⟨w.heap.size, 1, none⟩ = some (.int .i64 d) := cell_later hb1 (by simp)
  have o12 : w1.cell? ⟨w.heap.size, 2, none⟩ = some (.int .i64 A) := cell_later hb1 (by simp)
  have o13 : w1.cell? ⟨w.heap.size, 3, none⟩ = some (.int .i64 B) := cell_later hb1 (by simp)
  have o14 : w1.cell? ⟨w.heap.size, 4, none⟩ = some (.int .i64 C) := cell_later hb1 (by simp)
  have o15 : w1.cell? ⟨w.heap.size, 5, none⟩ = some (.int .i64 n) := cell_later hb1 (by simp)
  have o16 : w1.cell? ⟨w.heap.size, 6, none⟩ = some (.int .i64 g) := cell_later hb1 (by simp)
  have hz1 : w.heap.size < w1.heap.size := by have := hb1.size; simp only [World.size_alloc] at this; omega
  have hB1 : Below w.heap.size w w1 := by refine Below.trans ?_ (hb1.mono ?_) <;> go_grown
  clear hb1
  go_wp2_with fail
  refine (do_is _ _ _ _ _ _ _ _ _ _ _ _ _ _ _ _ _ HV.out HU.out HF.out _).mono ?_
  rintro e w2 ⟨rfl, hb2⟩
  have o20 : w2.cell? ⟨w.heap.size, 0, none⟩ = some (.int .i64 k) := cell_later hb2 o10
  have o21 : w2.cell? ⟨w.heap.size, 1, none⟩ = some (.int .i64 d) := cell_later hb2 o11
  have o22 : w2.cell? ⟨w.heap.size, 2, none⟩ = some (.int .i64 A) := cell_later hb2 o12
  have o23 : w2.cell? ⟨w.heap.size, 3, none⟩ = some (.int .i64 B) := cell_later hb2 o13
  have o24 : w2.cell? ⟨w.heap.size, 4, none⟩ = some (.int .i64 C) := cell_later hb2 o14
  have o25 : w2.cell? ⟨w.heap.size, 5, none⟩ = some (.int .i64 n) := cell_later hb2 o15
  have o26 : w2.cell? ⟨w.heap.size, 6, none⟩ = some (.int .i64 g) := cell_later hb2 o16
  have hz2 : w.heap.size < w2.heap.size := by have := hb2.size; omega
  have hB2 : Below w.heap.size w w2 := hB1.trans (hb2.mono (Nat.le_of_lt hz1))
  clear hb2
  go_wp2_with (first | (go_at_call 15; refine (has_is _ _ HK.out _).mono ?_; rintro e w8 ⟨rfl, rfl⟩) | (go_at_call 11; refine (alive_any _).mono ?_; rintro e w9 ⟨rfl, h9⟩))
  go_ret
  refine ⟨rfl, Below.trans (hB2.alloc (Nat.le_of_lt hz2) _) (h9.mono ?_)⟩
  simp only [World.size_alloc]; omega

set_option maxRecDepth 100000 in
set_option maxHeartbeats 4000000 in
theorem poison_26 (k d A B C n g a b bad : Int) (m t : Int) (h0 : t ≠ 0) (hn : mN k a b = m) (ht : mT k b = t) (he : mE k = 0) (hv : doV k n (a, 0) (b, 0) (0, 0) = (0, 0)) (hu : doT k (a, 0) (b, 0) (0, 0) = t) (hf : doE k (a, 0) (b, 0) (0, 0) = 0) (hbad : bad ≠ 0) (hk : known k = true) (h1 : k ≠ 1) (h2 : k ≠ 2) (hx : doV k n (0, bad) (b, 0) (a, 0) = (0, 0)) (hy : doT k (0, bad) (b, 0) (a, 0) = bad) (hg : doE k (0, bad) (b, 0) (a, 0) = 0) (hz : doV k n (1, 0) (0, bad) (a, 0) = (0, 0)) (hw : doT k (1, 0) (0, bad) (a, 0) = bad) (hh : doE k (1, 0) (0, bad) (a, 0) = 0) (w : World) :
    Calls Try.prog 8 #[.agg #[.int .i64 k, .int .i64 d, .int .i64 A, .int .i64 B, .int .i64 C, .int .i64 n, .int .i64 g], .int .i64 a, .int .i64 b, .int .i64 bad] w fun e w' => e = .returned (.bool true) ∧ Below w.heap.size w w' := by
  have d1 : (k == 1) = false := by simp [h1]
  have d2 : (k == 2) = false := by simp [h2]
  have HN := Lib.hid hn
  have HT := Lib.hid ht
  have HE := Lib.hid he
  have HV := Lib.hid hv
  have HU := Lib.hid hu
  have HF := Lib.hid hf
  have HK := Lib.hid hk
  have HX := Lib.hid hx
  have HY := Lib.hid hy
  have HG := Lib.hid hg
  have HZ := Lib.hid hz
  have HW := Lib.hid hw
  have HH := Lib.hid hh
  clear hn ht he hv hu hf hk hx hy hg hz hw hh h1 h2
  go_enter Try.func8, Try.ntmps8
  go_wp2_with fail
  refine (math_is _ _ _ _ _ _ HN.out HT.out HE.out _).mono ?_
  rintro e w1 ⟨rfl, hb1⟩
  have o10 : w1.cell? ⟨w.heap.size, 0, none⟩ = some (.int .i64 k) := cell_later hb1 (by simp)
  have o11 : w1.cell? ⟨w.heap.size, 1, none⟩ = some (.int .i64 d) := cell_later hb1 (by simp)
  have o12 : w1.cell? ⟨w.heap.size, 2, none⟩ = some (.int .i64 A) := cell_later hb1 (by simp)
  have o13 : w1.cell? ⟨w.heap.size, 3, none⟩ = some (.int .i64 B) := cell_later hb1 (by simp)
  have o14 : w1.cell? ⟨w.heap.size, 4, none⟩ = some (.int .i64 C) := cell_later hb1 (by simp)
  have o15 : w1.cell? ⟨w.heap.size, 5, none⟩ = some (.int .i64 n) := cell_later hb1 (by simp)
  have o16 : w1.cell? ⟨w.heap.size, 6, none⟩ = some (.int .i64 g) := cell_later hb1 (by simp)
  have hz1 : w.heap.size < w1.heap.size := by have := hb1.size; simp only [World.size_alloc] at this; omega
  have hB1 : Below w.heap.size w w1 := by refine Below.trans ?_ (hb1.mono ?_) <;> go_grown
  clear hb1
  go_wp2_with fail
  refine (do_is _ _ _ _ _ _ _ _ _ _ _ _ _ _ _ _ _ HV.out HU.out HF.out _).mono ?_
  rintro e w2 ⟨rfl, hb2⟩
  have o20 : w2.cell? ⟨w.heap.size, 0, none⟩ = some (.int .i64 k) := cell_later hb2 o10
  have o21 : w2.cell? ⟨w.heap.size, 1, none⟩ = some (.int .i64 d) := cell_later hb2 o11
  have o22 : w2.cell? ⟨w.heap.size, 2, none⟩ = some (.int .i64 A) := cell_later hb2 o12
  have o23 : w2.cell? ⟨w.heap.size, 3, none⟩ = some (.int .i64 B) := cell_later hb2 o13
  have o24 : w2.cell? ⟨w.heap.size, 4, none⟩ = some (.int .i64 C) := cell_later hb2 o14
  have o25 : w2.cell? ⟨w.heap.size, 5, none⟩ = some (.int .i64 n) := cell_later hb2 o15
  have o26 : w2.cell? ⟨w.heap.size, 6, none⟩ = some (.int .i64 g) := cell_later hb2 o16
  have hz2 : w.heap.size < w2.heap.size := by have := hb2.size; omega
  have hB2 : Below w.heap.size w w2 := hB1.trans (hb2.mono (Nat.le_of_lt hz1))
  clear hb2
  go_wp2_with (go_at_call 15; refine (has_is _ _ HK.out _).mono ?_; rintro e w8 ⟨rfl, rfl⟩)
  refine (do_is _ _ _ _ _ _ _ _ _ _ _ _ _ _ _ _ _ HX.out HY.out HG.out _).mono ?_
  rintro e w3 ⟨rfl, hb3⟩
  have o30 : w3.cell? ⟨w.heap.size, 0, none⟩ = some (.int .i64 k) := cell_later hb3 (cell_later (w := w2) (by go_grown) o20)
  have o31 : w3.cell? ⟨w.heap.size, 1, none⟩ = some (.int .i64 d) := cell_later hb3 (cell_later (w := w2) (by go_grown) o21)
  have o32 : w3.cell? ⟨w.heap.size, 2, none⟩ = some (.int .i64 A) := cell_later hb3 (cell_later (w := w2) (by go_grown) o22)
  have o33 : w3.cell? ⟨w.heap.size, 3, none⟩ = some (.int .i64 B) := cell_later hb3 (cell_later (w := w2) (by go_grown) o23)
  have o34 : w3.cell? ⟨w.heap.size, 4, none⟩ = some (.int .i64 C) := cell_later hb3 (cell_later (w := w2) (by go_grown) o24)
  have o35 : w3.cell? ⟨w.heap.size, 5, none⟩ = some (.int .i64 n) := cell_later hb3 (cell_later (w := w2) (by go_grown) o25)
  have o36 : w3.cell? ⟨w.heap.size, 6, none⟩ = some (.int .i64 g) := cell_later hb3 (cell_later (w := w2) (by go_grown) o26)
  have hz3 : w.heap.size < w3.heap.size := by have := hb3.size; simp only [World.size_alloc] at this; omega
  have hB3 : Below w.heap.size w w3 := Below.trans (hB2.alloc (Nat.le_of_lt hz2) _) (hb3.mono (by simp only [World.size_alloc]; omega))
  clear hb3
  go_wp2_with fail
  refine (do_is _ _ _ _ _ _ _ _ _ _ _ _ _ _ _ _ _ HZ.out HW.out HH.out _).mono ?_
  rintro e w4 ⟨rfl, hb4⟩
  have o40 : w4.cell? ⟨w.heap.size, 0, none⟩ = some (.int .i64 k) := cell_later hb4 (cell_later (w := w3) (by go_grown) o30)
  have o41 : w4.cell? ⟨w.heap.size, 1, none⟩ = some (.int .i64 d) := cell_later hb4 (cell_later (w := w3) (by go_grown) o31)
  have o42 : w4.cell? ⟨w.heap.size, 2, none⟩ = some (.int .i64 A) := cell_later hb4 (cell_later (w := w3) (by go_grown) o32)
  have o43 : w4.cell? ⟨w.heap.size, 3, none⟩ = some (.int .i64 B) := cell_later hb4 (cell_later (w := w3) (by go_grown) o33)
  have o44 : w4.cell? ⟨w.heap.size, 4, none⟩ = some (.int .i64 C) := cell_later hb4 (cell_later (w := w3) (by go_grown) o34)
  have o45 : w4.cell? ⟨w.heap.size, 5, none⟩ = some (.int .i64 n) := cell_later hb4 (cell_later (w := w3) (by go_grown) o35)
  have o46 : w4.cell? ⟨w.heap.size, 6, none⟩ = some (.int .i64 g) := cell_later hb4 (cell_later (w := w3) (by go_grown) o36)
  have hz4 : w.heap.size < w4.heap.size := by have := hb4.size; simp only [World.size_alloc] at this; omega
  have hB4 : Below w.heap.size w w4 := Below.trans (hB3.alloc (Nat.le_of_lt hz3) _) (hb4.mono (by simp only [World.size_alloc]; omega))
  clear hb4
  go_wp2_with (go_at_call 11; refine (alive_any _).mono ?_; rintro e w9 ⟨rfl, h9⟩)
  go_ret
  refine ⟨rfl, Below.trans (hB4.alloc (Nat.le_of_lt hz4) _) (h9.mono ?_)⟩
  simp only [World.size_alloc]; omega

set_option maxRecDepth 100000 in
set_option maxHeartbeats 4000000 in
theorem poison_31 (k d A B C n g a b : Int) (m t v1 v2 u f : Int) (hn : mN k a b = m) (ht : mT k b = t) (he : mE k = 2) (hv : doV k n (a, 0) (b, 0) (0, 0) = (v1, v2)) (hu : doT k (a, 0) (b, 0) (0, 0) = u) (hf : doE k (a, 0) (b, 0) (0, 0) = f) (w : World) :
    Calls Try.prog 8 #[.agg #[.int .i64 k, .int .i64 d, .int .i64 A, .int .i64 B, .int .i64 C, .int .i64 n, .int .i64 g], .int .i64 a, .int .i64 b, .int .i64 0] w fun e w' => e = .returned (.bool true) ∧ Below w.heap.size w w' := by
  have HN := Lib.hid hn
  have HT := Lib.hid ht
  have HE := Lib.hid he
  have HV := Lib.hid hv
  have HU := Lib.hid hu
  have HF := Lib.hid hf
  clear hn ht he hv hu hf
  go_enter Try.func8, Try.ntmps8
  go_wp2_with fail
  refine (math_is _ _ _ _ _ _ HN.out HT.out HE.out _).mono ?_
  rintro e w1 ⟨rfl, hb1⟩
  have o10 : w1.cell? ⟨w.heap.size, 0, none⟩ = some (.int .i64 k) := cell_later hb1 (by simp)
  have o11 : w1.cell? ⟨w.heap.size, 1, none⟩ = some (.int .i64 d) := cell_later hb1 (by simp)
  have o12 : w1.cell? ⟨w.heap.size, 2, none⟩ = some (.int .i64 A) := cell_later hb1 (by simp)
  have o13 : w1.cell? ⟨w.heap.size, 3, none⟩ = some (.int .i64 B) := cell_later hb1 (by simp)
  have o14 : w1.cell? ⟨w.heap.size, 4, none⟩ = some (.int .i64 C) := cell_later hb1 (by simp)
  have o15 : w1.cell? ⟨w.heap.size, 5, none⟩ = some (.int .i64 n) := cell_later hb1 (by simp)
  have o16 : w1.cell? ⟨w.heap.size, 6, none⟩ = some (.int .i64 g) := cell_later hb1 (by simp)
  have hz1 : w.heap.size < w1.heap.size := by have := hb1.size; simp only [World.size_alloc] at this; omega
  have hB1 : Below w.heap.size w w1 := by refine Below.trans ?_ (hb1.mono ?_) <;> go_grown
  clear hb1
  go_wp2_with fail
  refine (do_is _ _ _ _ _ _ _ _ _ _ _ _ _ _ _ _ _ HV.out HU.out HF.out _).mono ?_
  rintro e w2 ⟨rfl, hb2⟩
  have o20 : w2.cell? ⟨w.heap.size, 0, none⟩ = some (.int .i64 k) := cell_later hb2 o10
  have o21 : w2.cell? ⟨w.heap.size, 1, none⟩ = some (.int .i64 d) := cell_later hb2 o11
  have o22 : w2.cell? ⟨w.heap.size, 2, none⟩ = some (.int .i64 A) := cell_later hb2 o12
  have o23 : w2.cell? ⟨w.heap.size, 3, none⟩ = some (.int .i64 B) := cell_later hb2 o13
  have o24 : w2.cell? ⟨w.heap.size, 4, none⟩ = some (.int .i64 C) := cell_later hb2 o14
  have o25 : w2.cell? ⟨w.heap.size, 5, none⟩ = some (.int .i64 n) := cell_later hb2 o15
  have o26 : w2.cell? ⟨w.heap.size, 6, none⟩ = some (.int .i64 g) := cell_later hb2 o16
  have hz2 : w.heap.size < w2.heap.size := by have := hb2.size; omega
  have hB2 : Below w.heap.size w w2 := hB1.trans (hb2.mono (Nat.le_of_lt hz1))
  clear hb2
  go_wp2_with (first | (go_at_call 15; refine (has_is _ _ HK.out _).mono ?_; rintro e w8 ⟨rfl, rfl⟩) | (go_at_call 11; refine (alive_any _).mono ?_; rintro e w9 ⟨rfl, h9⟩))
  go_ret
  refine ⟨rfl, Below.trans (hB2.alloc (Nat.le_of_lt hz2) _) (h9.mono ?_)⟩
  simp only [World.size_alloc]; omega

set_option maxRecDepth 100000 in
set_option maxHeartbeats 4000000 in
theorem poison_32 (k d A B C n g a b bad : Int) (m t v1 v2 u f : Int) (hn : mN k a b = m) (ht : mT k b = t) (he : mE k = 2) (hv : doV k n (a, 0) (b, 0) (0, 0) = (v1, v2)) (hu : doT k (a, 0) (b, 0) (0, 0) = u) (hf : doE k (a, 0) (b, 0) (0, 0) = f) (hbad : bad ≠ 0) (hk : known k = false) (w : World) :
    Calls Try.prog 8 #[.agg #[.int .i64 k, .int .i64 d, .int .i64 A, .int .i64 B, .int .i64 C, .int .i64 n, .int .i64 g], .int .i64 a, .int .i64 b, .int .i64 bad] w fun e w' => e = .returned (.bool true) ∧ Below w.heap.size w w' := by
  have HN := Lib.hid hn
  have HT := Lib.hid ht
  have HE := Lib.hid he
  have HV := Lib.hid hv
  have HU := Lib.hid hu
  have HF := Lib.hid hf
  have HK := Lib.hid hk
  clear hn ht he hv hu hf hk
  go_enter Try.func8, Try.ntmps8
  go_wp2_with fail
  refine (math_is _ _ _ _ _ _ HN.out HT.out HE.out _).mono ?_
  rintro e w1 ⟨rfl, hb1⟩
  have o10 : w1.cell? ⟨w.heap.size, 0, none⟩ = some (.int .i64 k) := cell_later hb1 (by simp)
  have o11 : w1.cell? ⟨w.heap.size, 1, none⟩ = some (.int .i64 d) := cell_later hb1 (by simp)
  have o12 : w1.cell? ⟨w.heap.size, 2, none⟩ = some (.int .i64 A) := cell_later hb1 (by simp)
  have o13 : w1.cell? ⟨w.heap.size, 3, none⟩ = some (.int .i64 B) := cell_later hb1 (by simp)
  have o14 : w1.cell? ⟨w.heap.size, 4, none⟩ = some (.int .i64 C) := cell_later hb1 (by simp)
  have o15 : w1.cell? ⟨w.heap.size, 5, none⟩ = some (.int .i64 n) := cell_later hb1 (by simp)
  have o16 : w1.cell? ⟨w.heap.size, 6, none⟩ = some (.int .i64 g) := cell_later hb1 (by simp)
  have hz1 : w.heap.size < w1.heap.size := by have := hb1.size; simp only [World.size_alloc] at this; omega
  have hB1 : Below w.heap.size w w1 := by refine Below.trans ?_ (hb1.mono ?_) <;> go_grown
  clear hb1
  go_wp2_with fail
  refine (do_is _ _ _ _ _ _ _ _ _ _ _ _ _ _ _ _ _ HV.out HU.out HF.out _).mono ?_
  rintro e w2 ⟨rfl, hb2⟩
  have o20 : w2.cell? ⟨w.heap.size, 0, none⟩ = some (.int .i64 k) := cell_later hb2 o10
  have o21 : w2.cell? ⟨w.heap.size, 1, none⟩ = some (.int .i64 d) := cell_later hb2 o11
  have o22 : w2.cell? ⟨w.heap.size, 2, none⟩ = some (.int .i64 A) := cell_later hb2 o12
  have o23 : w2.cell? ⟨w.heap.size, 3, none⟩ = some (.int .i64 B) := cell_later hb2 o13
  have o24 : w2.cell? ⟨w.heap.size, 4, none⟩ = some (.int .i64 C) := cell_later hb2 o14
  have o25 : w2.cell? ⟨w.heap.size, 5, none⟩ = some (.int .i64 n) := cell_later hb2 o15
  have o26 : w2.cell? ⟨w.heap.size, 6, none⟩ = some (.int .i64 g) := cell_later hb2 o16
  have hz2 : w.heap.size < w2.heap.size := by have := hb2.size; omega
  have hB2 : Below w.heap.size w w2 := hB1.trans (hb2.mono (Nat.le_of_lt hz1))
  clear hb2
  go_wp2_with (first | (go_at_call 15; refine (has_is _ _ HK.out _).mono ?_; rintro e w8 ⟨rfl, rfl⟩) | (go_at_call 11; refine (alive_any _).mono ?_; rintro e w9 ⟨rfl, h9⟩))
  go_ret
  refine ⟨rfl, Below.trans (hB2.alloc (Nat.le_of_lt hz2) _) (h9.mono ?_)⟩
  simp only [World.size_alloc]; omega

set_option maxRecDepth 100000 in
set_option maxHeartbeats 4000000 in
theorem poison_33 (k d A B C n g a b bad : Int) (m t v1 v2 u f : Int) (hn : mN k a b = m) (ht : mT k b = t) (he : mE k = 2) (hv : doV k n (a, 0) (b, 0) (0, 0) = (v1, v2)) (hu : doT k (a, 0) (b, 0) (0, 0) = u) (hf : doE k (a, 0) (b, 0) (0, 0) = f) (hbad : bad ≠ 0) (hk : known k = true) (h1 : k = 1) (w : World) :
    Calls Try.prog 8 #[.agg #[.int .i64 k, .int .i64 d, .int .i64 A, .int .i64 B, .int .i64 C, .int .i64 n, .int .i64 g], .int .i64 a, .int .i64 b, .int .i64 bad] w fun e w' => e = .returned (.bool true) ∧ Below w.heap.size w w' := by
  subst h1
  have HN := Lib.hid hn
  have HT := Lib.hid ht
  have HE := Lib.hid he
  have HV := Lib.hid hv
  have HU := Lib.hid hu
  have HF := Lib.hid hf
  have HK := Lib.hid hk
  clear hn ht he hv hu hf hk
  go_enter Try.func8, Try.ntmps8
  go_wp2_with fail
  refine (math_is _ _ _ _ _ _ HN.out HT.out HE.out _).mono ?_
  rintro e w1 ⟨rfl, hb1⟩
  have o10 : w1.cell? ⟨w.heap.size, 0, none⟩ = some (.int .i64 1) := cell_later hb1 (by simp)
  have o11 : w1.cell? ⟨w.heap.size, 1, none⟩ = some (.int .i64 d) := cell_later hb1 (by simp)
  have o12 : w1.cell? ⟨w.heap.size, 2, none⟩ = some (.int .i64 A) := cell_later hb1 (by simp)
  have o13 : w1.cell? ⟨w.heap.size, 3, none⟩ = some (.int .i64 B) := cell_later hb1 (by simp)
  have o14 : w1.cell? ⟨w.heap.size, 4, none⟩ = some (.int .i64 C) := cell_later hb1 (by simp)
  have o15 : w1.cell? ⟨w.heap.size, 5, none⟩ = some (.int .i64 n) := cell_later hb1 (by simp)
  have o16 : w1.cell? ⟨w.heap.size, 6, none⟩ = some (.int .i64 g) := cell_later hb1 (by simp)
  have hz1 : w.heap.size < w1.heap.size := by have := hb1.size; simp only [World.size_alloc] at this; omega
  have hB1 : Below w.heap.size w w1 := by refine Below.trans ?_ (hb1.mono ?_) <;> go_grown
  clear hb1
  go_wp2_with fail
  refine (do_is _ _ _ _ _ _ _ _ _ _ _ _ _ _ _ _ _ HV.out HU.out HF.out _).mono ?_
  rintro e w2 ⟨rfl, hb2⟩
  have o20 : w2.cell? ⟨w.heap.size, 0, none⟩ = some (.int .i64 1) := cell_later hb2 o10
  have o21 : w2.cell? ⟨w.heap.size, 1, none⟩ = some (.int .i64 d) := cell_later hb2 o11
  have o22 : w2.cell? ⟨w.heap.size, 2, none⟩ = some (.int .i64 A) := cell_later hb2 o12
  have o23 : w2.cell? ⟨w.heap.size, 3, none⟩ = some (.int .i64 B) := cell_later hb2 o13
  have o24 : w2.cell? ⟨w.heap.size, 4, none⟩ = some (.int .i64 C) := cell_later hb2 o14
  have o25 : w2.cell? ⟨w.heap.size, 5, none⟩ = some (.int .i64 n) := cell_later hb2 o15
  have o26 : w2.cell? ⟨w.heap.size, 6, none⟩ = some (.int .i64 g) := cell_later hb2 o16
  have hz2 : w.heap.size < w2.heap.size := by have := hb2.size; omega
  have hB2 : Below w.heap.size w w2 := hB1.trans (hb2.mono (Nat.le_of_lt hz1))
  clear hb2
  go_wp2_with (first | (go_at_call 15; refine (has_is _ _ HK.out _).mono ?_; rintro e w8 ⟨rfl, rfl⟩) | (go_at_call 11; refine (alive_any _).mono ?_; rintro e w9 ⟨rfl, h9⟩))
  go_ret
  refine ⟨rfl, Below.trans (hB2.alloc (Nat.le_of_lt hz2) _) (h9.mono ?_)⟩
  simp only [World.size_alloc]; omega

set_option maxRecDepth 100000 in
set_option maxHeartbeats 4000000 in
theorem poison_34 (k d A B C n g a b bad : Int) (m t v1 v2 u f : Int) (hn : mN k a b = m) (ht : mT k b = t) (he : mE k = 2) (hv : doV k n (a, 0) (b, 0) (0, 0) = (v1, v2)) (hu : doT k (a, 0) (b, 0) (0, 0) = u) (hf : doE k (a, 0) (b, 0) (0, 0) = f) (hbad : bad ≠ 0) (hk : known k = true) (h1 : k ≠ 1) (h2 : k = 2) (hx : doV k n (0, bad) (b, 0) (a, 0) = (0, bad)) (hy : doT k (0, bad) (b, 0) (a, 0) = 0) (hg : doE k (0, bad) (b, 0) (a, 0) = 0) (w : World) :
    Calls Try.prog 8 #[.agg #[.int .i64 k, .int .i64 d, .int .i64 A, .int .i64 B, .int .i64 C, .int .i64 n, .int .i64 g], .int .i64 a, .int .i64 b, .int .i64 bad] w fun e w' => e = .returned (.bool true) ∧ Below w.heap.size w w' := by
  subst h2
  have d1 : ((2 : Int) == 1) = false := by decide
  have HN := Lib.hid hn
  have HT := Lib.hid ht
  have HE := Lib.hid he
  have HV := Lib.hid hv
  have HU := Lib.hid hu
  have HF := Lib.hid hf
  have HK := Lib.hid hk
  have HX := Lib.hid hx
  have HY := Lib.hid hy
  have HG := Lib.hid hg
  clear hn ht he hv hu hf hk hx hy hg h1
  go_enter Try.func8, Try.ntmps8
  go_wp2_with fail
  refine (math_is _ _ _ _ _ _ HN.out HT.out HE.out _).mono ?_
  rintro e w1 ⟨rfl, hb1⟩
  have o10 : w1.cell? ⟨w.heap.size, 0, none⟩ = some (.int .i64 2) := cell_later hb1 (by simp)
  have o11 : w1.cell? ⟨w.heap.size, 1, none⟩ = some (.int .i64 d) := cell_later hb1 (by simp)
  have o12 : w1.cell? ⟨w.heap.size, 2, none⟩ = some (.int .i64 A) := cell_later hb1 (by simp)
  have o13 : w1.cell? ⟨w.heap.size, 3, none⟩ = some (.int .i64 B) := cell_later hb1 (by simp)
  have o14 : w1.cell? ⟨w.heap.size, 4, none⟩ = some (.int .i64 C) := cell_later hb1 (by simp)
  have o15 : w1.cell? ⟨w.heap.size, 5, none⟩ = some (.int .i64 n) := cell_later hb1 (by simp)
  have o16 : w1.cell? ⟨w.heap.size, 6, none⟩ = some (.int .i64 g) := cell_later hb1 (by simp)
  have hz1 : w.heap.size < w1.heap.size := by have := hb1.size; simp only [World.size_alloc] at this; omega
  have hB1 : Below w.heap.size w w1 := by refine Below.trans ?_ (hb1.mono ?_) <;> go_grown
  clear hb1
  go_wp2_with fail
  refine (do_is _ _ _ _ _ _ _ _ _ _ _ _ _ _ _ _ _ HV.out HU.out HF.out _).mono ?_
  rintro e w2 ⟨rfl, hb2⟩
  have o20 : w2.cell? ⟨w.heap.size, 0, none⟩ = some (.int .i64 2) := cell_later hb2 o10
  have o21 : w2.cell? ⟨w.heap.size, 1, none⟩ = some (.int .i64 d) := cell_later hb2 o11
  have o22 : w2.cell? ⟨w.heap.size, 2, none⟩ = some (.int .i64 A) := cell_later hb2 o12
  have o23 : w2.cell? ⟨w.heap.size, 3, none⟩ = some (.int .i64 B) := cell_later hb2 o13
  have o24 : w2.cell? ⟨w.heap.size, 4, none⟩ = some (.int .i64 C) := cell_later hb2 o14
  have o25 : w2.cell? ⟨w.heap.size, 5, none⟩ = some (.int .i64 n) := cell_later hb2 o15
  have o26 : w2.cell? ⟨w.heap.size, 6, none⟩ = some (.int .i64 g) := cell_later hb2 o16
  have hz2 : w.heap.size < w2.heap.size := by have := hb2.size; omega
  have hB2 : Below w.heap.size w w2 := hB1.trans (hb2.mono (Nat.le_of_lt hz1))
  clear hb2
  go_wp2_with (go_at_call 15; refine (has_is _ _ HK.out _).mono ?_; rintro e w8 ⟨rfl, rfl⟩)
  refine (do_is _ _ _ _ _ _ _ _ _ _ _ _ _ _ _ _ _ HX.out HY.out HG.out _).mono ?_
  rintro e w3 ⟨rfl, hb3⟩
  have o30 : w3.cell? ⟨w.heap.size, 0, none⟩ = some (.int .i64 2) := cell_later hb3 (cell_later (w := w2) (by go_grown) o20)
  have o31 : w3.cell? ⟨w.heap.size, 1, none⟩ = some (.int .i64 d) := cell_later hb3 (cell_later (w := w2) (by go_grown) o21)
  have o32 : w3.cell? ⟨w.heap.size, 2, none⟩ = some (.int .i64 A) := cell_later hb3 (cell_later (w := w2) (by go_grown) o22)
  have o33 : w3.cell? ⟨w.heap.size, 3, none⟩ = some (.int .i64 B) := cell_later hb3 (cell_later (w := w2) (by go_grown) o23)
  have o34 : w3.cell? ⟨w.heap.size, 4, none⟩ = some (.int .i64 C) := cell_later hb3 (cell_later (w := w2) (by go_grown) o24)
  have o35 : w3.cell? ⟨w.heap.size, 5, none⟩ = some (.int .i64 n) := cell_later hb3 (cell_later (w := w2) (by go_grown) o25)
  have o36 : w3.cell? ⟨w.heap.size, 6, none⟩ = some (.int .i64 g) := cell_later hb3 (cell_later (w := w2) (by go_grown) o26)
  have hz3 : w.heap.size < w3.heap.size := by have := hb3.size; simp only [World.size_alloc] at this; omega
  have hB3 : Below w.heap.size w w3 := Below.trans (hB2.alloc (Nat.le_of_lt hz2) _) (hb3.mono (by simp only [World.size_alloc]; omega))
  clear hb3
  go_wp2_with (go_at_call 11; refine (alive_any _).mono ?_; rintro e w9 ⟨rfl, h9⟩)
  go_ret
  refine ⟨rfl, Below.trans (hB3.alloc (Nat.le_of_lt hz3) _) (h9.mono ?_)⟩
  simp only [World.size_alloc]; omega

set_option maxRecDepth 100000 in
set_option maxHeartbeats 4000000 in
theorem poison_35 (k d A B C n g a b bad : Int) (m t v1 v2 u f : Int) (hn : mN k a b = m) (ht : mT k b = t) (he : mE k = 2) (hv : doV k n (a, 0) (b, 0) (0, 0) = (v1, v2)) (hu : doT k (a, 0) (b, 0) (0, 0) = u) (hf : doE k (a, 0) (b, 0) (0, 0) = f) (hbad : bad ≠ 0) (hk : known k = true) (h1 : k ≠ 1) (h2 : k ≠ 2) (hx : doV k n (0, bad) (b, 0) (a, 0) = (0, bad)) (hy : doT k (0, bad) (b, 0) (a, 0) = 0) (hg : doE k (0, bad) (b, 0) (a, 0) = 0) (hz : doV k n (1, 0) (0, bad) (a, 0) = (0, bad)) (hw : doT k (1, 0) (0, bad) (a, 0) = 0) (hh : doE k (1, 0) (0, bad) (a, 0) = 0) (w : World) :
    Calls Try.prog 8 #[.agg #[.int .i64 k, .int .i64 d, .int .i64 A, .int .i64 B, .int .i64 C, .int .i64 n, .int .i64 g], .int .i64 a, .int .i64 b, .int .i64 bad] w fun e w' => e = .returned (.bool true) ∧ Below w.heap.size w w' := by
  have d1 : (k == 1) = false := by simp [h1]
  have d2 : (k == 2) = false := by simp [h2]
  have HN := Lib.hid hn
  have HT := Lib.hid ht
  have HE := Lib.hid he
  have HV := Lib.hid hv
  have HU := Lib.hid hu
  have HF := Lib.hid hf
  have HK := Lib.hid hk
  have HX := Lib.hid hx
  have HY := Lib.hid hy
  have HG := Lib.hid hg
  have HZ := Lib.hid hz
  have HW := Lib.hid hw
  have HH := Lib.hid hh
  clear hn ht he hv hu hf hk hx hy hg hz hw hh h1 h2
  go_enter Try.func8, Try.ntmps8
  go_wp2_with fail
  refine (math_is _ _ _ _ _ _ HN.out HT.out HE.out _).mono ?_
  rintro e w1 ⟨rfl, hb1⟩
  have o10 : w1.cell? ⟨w.heap.size, 0, none⟩ = some (.int .i64 k) := cell_later hb1 (by simp)
  have o11 : w1.cell? ⟨w.heap.size, 1, none⟩ = some (.int .i64 d) := cell_later hb1 (by simp)
  have o12 : w1.cell? ⟨w.heap.size, 2, none⟩ = some (.int .i64 A) := cell_later hb1 (by simp)
  have o13 : w1.cell? ⟨w.heap.size, 3, none⟩ = some (.int .i64 B) := cell_later hb1 (by simp)
  have o14 : w1.cell? ⟨w.heap.size, 4, none⟩ = some (.int .i64 C) := cell_later hb1 (by simp)
  have o15 : w1.cell? ⟨w.heap.size, 5, none⟩ = some (.int .i64 n) := cell_later hb1 (by simp)
  have o16 : w1.cell? ⟨w.heap.size, 6, none⟩ = some (.int .i64 g) := cell_later hb1 (by simp)
  have hz1 : w.heap.size < w1.heap.size := by have := hb1.size; simp only [World.size_alloc] at this; omega
  have hB1 : Below w.heap.size w w1 := by refine Below.trans ?_ (hb1.mono ?_) <;> go_grown
  clear hb1
  go_wp2_with fail
  refine (do_is _ _ _ _ _ _ _ _ _ _ _ _ _ _ _ _ _ HV.out HU.out HF.out _).mono ?_
  rintro e w2 ⟨rfl, hb2⟩
  have o20 : w2.cell? ⟨w.heap.size, 0, none⟩ = some (.int .i64 k) := cell_later hb2 o10
  have o21 : w2.cell? ⟨w.heap.size, 1, none⟩ = some (.int .i64 d) := cell_later hb2 o11
  have o22 : w2.cell? ⟨w.heap.size, 2, none⟩ = some (.int .i64 A) := cell_later hb2 o12
  have o23 : w2.cell? ⟨w.heap.size, 3, none⟩ = some (.int .i64 B) := cell_later hb2 o13
  have o24 : w2.cell? ⟨w.heap.size, 4, none⟩ = some (.int .i64 C) := cell_later hb2 o14
  have o25 : w2.cell? ⟨w.heap.size, 5, none⟩ = some (.int .i64 n) := cell_later hb2 o15
  have o26 : w2.cell? ⟨w.heap.size, 6, none⟩ = some (.int .i64 g) := cell_later hb2 o16
  have hz2 : w.heap.size < w2.heap.size := by have := hb2.size; omega
  have hB2 : Below w.heap.size w w2 := hB1.trans (hb2.mono (Nat.le_of_lt hz1))
  clear hb2
  go_wp2_with (go_at_call 15; refine (has_is _ _ HK.out _).mono ?_; rintro e w8 ⟨rfl, rfl⟩)
  refine (do_is _ _ _ _ _ _ _ _ _ _ _ _ _ _ _ _ _ HX.out HY.out HG.out _).mono ?_
  rintro e w3 ⟨rfl, hb3⟩
  have o30 : w3.cell? ⟨w.heap.size, 0, none⟩ = some (.int .i64 k) := cell_later hb3 (cell_later (w := w2) (by go_grown) o20)
  have o31 : w3.cell? ⟨w.heap.size, 1, none⟩ = some (.int .i64 d) := cell_later hb3 (cell_later (w := w2) (by go_grown) o21)
  have o32 : w3.cell? ⟨w.heap.size, 2, none⟩ = some (.int .i64 A) := cell_later hb3 (cell_later (w := w2) (by go_grown) o22)
  have o33 : w3.cell? ⟨w.heap.size, 3, none⟩ = some (.int .i64 B) := cell_later hb3 (cell_later (w := w2) (by go_grown) o23)
  have o34 : w3.cell? ⟨w.heap.size, 4, none⟩ = some (.int .i64 C) := cell_later hb3 (cell_later (w := w2) (by go_grown) o24)
  have o35 : w3.cell? ⟨w.heap.size, 5, none⟩ = some (.int .i64 n) := cell_later hb3 (cell_later (w := w2) (by go_grown) o25)
  have o36 : w3.cell? ⟨w.heap.size, 6, none⟩ = some (.int .i64 g) := cell_later hb3 (cell_later (w := w2) (by go_grown) o26)
  have hz3 : w.heap.size < w3.heap.size := by have := hb3.size; simp only [World.size_alloc] at this; omega
  have hB3 : Below w.heap.size w w3 := Below.trans (hB2.alloc (Nat.le_of_lt hz2) _) (hb3.mono (by simp only [World.size_alloc]; omega))
  clear hb3
  go_wp2_with fail
  refine (do_is _ _ _ _ _ _ _ _ _ _ _ _ _ _ _ _ _ HZ.out HW.out HH.out _).mono ?_
  rintro e w4 ⟨rfl, hb4⟩
  have o40 : w4.cell? ⟨w.heap.size, 0, none⟩ = some (.int .i64 k) := cell_later hb4 (cell_later (w := w3) (by go_grown) o30)
  have o41 : w4.cell? ⟨w.heap.size, 1, none⟩ = some (.int .i64 d) := cell_later hb4 (cell_later (w := w3) (by go_grown) o31)
  have o42 : w4.cell? ⟨w.heap.size, 2, none⟩ = some (.int .i64 A) := cell_later hb4 (cell_later (w := w3) (by go_grown) o32)
  have o43 : w4.cell? ⟨w.heap.size, 3, none⟩ = some (.int .i64 B) := cell_later hb4 (cell_later (w := w3) (by go_grown) o33)
  have o44 : w4.cell? ⟨w.heap.size, 4, none⟩ = some (.int .i64 C) := cell_later hb4 (cell_later (w := w3) (by go_grown) o34)
  have o45 : w4.cell? ⟨w.heap.size, 5, none⟩ = some (.int .i64 n) := cell_later hb4 (cell_later (w := w3) (by go_grown) o35)
  have o46 : w4.cell? ⟨w.heap.size, 6, none⟩ = some (.int .i64 g) := cell_later hb4 (cell_later (w := w3) (by go_grown) o36)
  have hz4 : w.heap.size < w4.heap.size := by have := hb4.size; simp only [World.size_alloc] at this; omega
  have hB4 : Below w.heap.size w w4 := Below.trans (hB3.alloc (Nat.le_of_lt hz3) _) (hb4.mono (by simp only [World.size_alloc]; omega))
  clear hb4
  go_wp2_with (go_at_call 11; refine (alive_any _).mono ?_; rintro e w9 ⟨rfl, h9⟩)
  go_ret
  refine ⟨rfl, Below.trans (hB4.alloc (Nat.le_of_lt hz4) _) (h9.mono ?_)⟩
  simp only [World.size_alloc]; omega

end Go.Proofs.Ytlbfnmbodpfepaa
