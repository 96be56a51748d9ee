/- The walks of the laws WordMaths, WordRing, WordDivides and WordShifts: each answers true for all numbers. -/
import Derived.Test.YtlbfnmbodpfepaaWm
namespace Go.Proofs.Ytlbfnmbodpfepaa
open Go.RowKit

theorem maths_yes (k a b n t : Int) (hn : mN k a b = n) (ht : mT k b = t) (h2 : has2 k = true) (w : World) :
    Calls Try.prog 3 #[.int .i64 k, .int .i64 a, .int .i64 b] w fun e w' => e = .returned (.bool true) ∧ Below w.heap.size w w' := by
  have HN := Lib.hid hn
  have HT := Lib.hid ht
  have HE := Lib.hid (show mE k = 0 by simp [mE, h2])
  have hr : ∀ w, Calls Try.prog 10 #[.int .i64 k, .int .i64 a, .int .i64 b] w fun e w' => e = .returned (.tuple #[.int .i64 n, .int .i64 t, .bool true]) ∧ w = w' := fun w => h2 ▸ rmath_is k a b n t hn ht w
  have HR := Lib.hid hr
  clear hn ht hr h2
  go_enter Try.func3, Try.ntmps3
  go_wp2_with fail
  refine (math_is _ _ _ _ _ _ HN.out HT.out HE.out _).mono ?_
  rintro e w1 ⟨rfl, h1⟩
  have H1 := Lib.hid h1
  clear h1
  go_wp2_with fail
  refine (HR.out _).mono ?_
  rintro e w2 ⟨rfl, rfl⟩
  go_wp2_with (go_at_call 11; refine (alive_any _).mono ?_; rintro e w3 ⟨rfl, h3⟩)
  go_ret
  exact ⟨rfl, bel_trans H1.out h3⟩
theorem maths_no (k a b : Int) (h2 : has2 k = false) (w : World) :
    Calls Try.prog 3 #[.int .i64 k, .int .i64 a, .int .i64 b] w fun e w' => e = .returned (.bool true) ∧ Below w.heap.size w w' := by
  have h0 : dv k = false := by
    simp only [has2, decide_eq_false_iff_not] at h2
    simp [dv]; omega
  have HN := Lib.hid (show mN k a b = 0 by simp [mN, h2])
  have HT := Lib.hid (show mT k b = 0 by simp [mT, h0])
  have HE := Lib.hid (show mE k = 2 by simp [mE, h2])
  have hr : ∀ w, Calls Try.prog 10 #[.int .i64 k, .int .i64 a, .int .i64 b] w fun e w' => e = .returned (.tuple #[.int .i64 0, .int .i64 0, .bool false]) ∧ w = w' := fun w => h2 ▸ rmath_is k a b 0 0 HN.out HT.out w
  have HR := Lib.hid hr
  clear hr h2 h0
  go_enter Try.func3, Try.ntmps3
  go_wp2_with fail
  refine (math_is _ _ _ _ _ _ HN.out HT.out HE.out _).mono ?_
  rintro e w1 ⟨rfl, h1⟩
  have H1 := Lib.hid h1
  clear h1
  go_wp2_with fail
  refine (HR.out _).mono ?_
  rintro e w2 ⟨rfl, rfl⟩
  go_wp2_with (go_at_call 11; refine (alive_any _).mono ?_; rintro e w3 ⟨rfl, h3⟩)
  go_ret
  exact ⟨rfl, bel_trans H1.out h3⟩
theorem law_maths (k a b : Int) (w : World) :
    Calls Try.prog 3 #[.int .i64 k, .int .i64 a, .int .i64 b] w fun e w' => e = .returned (.bool true) ∧ Below w.heap.size w w' := by
  by_cases h : has2 k = true
  · exact maths_yes k a b _ _ rfl rfl h w
  · exact maths_no k a b (by simpa using h) w

/-- math of the law: what Math makes; the world goes on growing from W0 -/
theorem lm_any (k a b : Int) (W0 w : World) (h0 : Below W0.heap.size W0 w) : Calls Try.prog 17 #[.int .i64 k, .int .i64 a, .int .i64 b] w fun e w' => e = .returned (.int .i64 (mN k a b)) ∧ Below W0.heap.size W0 w' := by
  have H0 := Lib.hid h0
  clear h0
  go_enter Try.func17, Try.ntmps17
  go_wp2_with fail
  refine (math_any _ _ _ _).mono ?_
  rintro e w1 ⟨rfl, h1⟩
  have H1 := Lib.hid h1
  clear h1
  go_wp2
  go_ret
  exact ⟨rfl, bel_trans H0.out H1.out⟩
theorem alive_from (W0 w : World) (h0 : Below W0.heap.size W0 w) : Calls Try.prog 11 #[] w fun e w' => e = .returned (.bool true) ∧ Below W0.heap.size W0 w' :=
  (alive_any w).mono fun _ _ h => ⟨h.1, bel_trans h0 h.2⟩

set_option maxHeartbeats 1000000 in
theorem law_ring (a b c : Int) (ha : fits a) (w : World) :
    Calls Try.prog 5 #[.int .i64 a, .int .i64 b, .int .i64 c] w fun e w' => e = .returned (.bool true) ∧ Below w.heap.size w w' := by
  have r1 := r_addc a b
  have r2 := r_adda a b c
  have r3 := r_add0 a ha
  have r4 := r_mulc a b
  have r5 := r_mula a b c
  have r6 := r_mul1 a ha
  have r7 := r_dist a b c
  have r8 := r_sub a b ha
  have r9 := r_xor a b ha
  have r10 := r_abs a b ha
  have r11 := r_ao a b
  have hb0 := Below.refl w.heap.size w
  clear ha
  go_enter Try.func5, Try.ntmps5
  go_wp2_with (first | (go_at_call 17; refine (lm_any _ _ _ w _ (by assumption)).mono ?_; rintro e w' ⟨rfl, hb⟩) | (go_at_call 11; refine (alive_from w _ (by assumption)).mono ?_; rintro e w' ⟨rfl, hb⟩))
  go_ret
  exact ⟨rfl, by assumption⟩
end Go.Proofs.Ytlbfnmbodpfepaa
