/- The walks of the laws WordDivides and WordShifts: each answers true for all numbers. -/
import Derived.Test.YtlbfnmbodpfepaaWn
import Derived.Deep.LoopGhost
namespace Go.Proofs.Ytlbfnmbodpfepaa
open Go.RowKit

theorem div_zero (a : Int) (w : World) :
    Calls Try.prog 6 #[.int .i64 a, .int .i64 0] w fun e w' => e = .returned (.bool true) ∧ Below w.heap.size w w' := by
  go_enter Try.func6, Try.ntmps6
  go_wp2_with fail
  refine (math_is 14 a 0 0 (-2) 0 rfl rfl rfl _).mono ?_
  rintro e w1 ⟨rfl, h1⟩
  have H1 := Lib.hid h1
  clear h1
  go_wp2_with fail
  refine (math_is 15 a 0 0 (-2) 0 rfl rfl rfl _).mono ?_
  rintro e w2 ⟨rfl, h2⟩
  have H2 := Lib.hid h2
  clear h2
  go_wp2_with (go_at_call 11; refine (alive_from w _ (bel_trans H1.out H2.out)).mono ?_; rintro e w3 ⟨rfl, h3⟩)
  go_ret
  exact ⟨rfl, by assumption⟩
set_option maxHeartbeats 1000000 in
theorem div_some (a b q r : Int) (hr : -9223372036854775807 ≤ r ∧ r ≤ 9223372036854775807) (hb : fits b) (h0 : b ≠ 0) (hq : mN 14 a b = q) (hm : mN 15 a b = r) (hback : (mN 3 (mN 13 q b) r == a) = true)
    (hfar : r.natAbs < b.natAbs) (hs : r = 0 ∨ r < 0 ∧ a < 0 ∨ 0 < r ∧ 0 ≤ a) (w : World) :
    Calls Try.prog 6 #[.int .i64 a, .int .i64 b] w fun e w' => e = .returned (.bool true) ∧ Below w.heap.size w w' := by
  have HQ := Lib.hid hq
  have HM := Lib.hid hm
  have HT := Lib.hid (show mT 14 b = 0 by simp [mT, h0])
  have HU := Lib.hid (show mT 15 b = 0 by simp [mT, h0])
  have hn : (mN 3 (mN 13 q b) r != a) = false := by rw [bne, hback]; rfl
  have hb0 : (b == 0) = false := by simp [h0]
  obtain ⟨hr1, hr2⟩ := hr
  obtain ⟨hb1, hb2⟩ := hb
  clear hq hm hback
  rcases hs with rfl | ⟨s1, s2⟩ | ⟨s1, s2⟩
  all_goals
    rcases Int.lt_or_lt_of_ne h0 with hbn | hbp
    all_goals
      clear h0
      go_enter Try.func6, Try.ntmps6
      go_wp2_with fail
      refine (math_is _ _ _ _ _ 0 HQ.out HT.out rfl _).mono ?_
      rintro e w1 ⟨rfl, h1⟩
      have H1 := Lib.hid h1
      clear h1
      go_wp2_with fail
      refine (math_is _ _ _ _ _ 0 HM.out HU.out rfl _).mono ?_
      rintro e w2 ⟨rfl, h2⟩
      have h12 := bel_trans H1.out h2
      clear h2 H1
      go_wp2_with (first | (go_at_call 17; refine (lm_any _ _ _ w _ (by assumption)).mono ?_; rintro e w' ⟨rfl, hb⟩) | (go_at_call 11; refine (alive_from w _ (by assumption)).mono ?_; rintro e w3 ⟨rfl, h3⟩))
      go_ret
      exact ⟨rfl, by assumption⟩
theorem law_divides (a b : Int) (ha : fits a) (hb : fits b) (w : World) :
    Calls Try.prog 6 #[.int .i64 a, .int .i64 b] w fun e w' => e = .returned (.bool true) ∧ Below w.heap.size w w' := by
  by_cases h0 : b = 0
  · subst h0; exact div_zero a w
  · have hf := d_far a b h0
    have hq : -9223372036854775807 ≤ a.tmod b ∧ a.tmod b ≤ 9223372036854775807 := by unfold fits at hb; omega
    have hs : a.tmod b = 0 ∨ a.tmod b < 0 ∧ a < 0 ∨ 0 < a.tmod b ∧ 0 ≤ a := by
      by_cases h1 : a.tmod b = 0
      · exact .inl h1
      · have := d_sign a b h1
        rcases Int.lt_or_lt_of_ne h1 with h2 | h2
        · exact .inr (.inl ⟨h2, this.1 h2⟩)
        · refine .inr (.inr ⟨h2, ?_⟩)
          rcases Int.lt_or_le a 0 with h3 | h3
          · have := this.2 h3; omega
          · exact h3
    have hback : (mN 3 (mN 13 (mN 14 a b) b) (a.tmod b) == a) = true := by
      rw [← m_rem a b h0, d_back a b ha h0]; simp
    exact div_some a b _ _ hq hb h0 rfl (m_rem a b h0) hback hf hs w

theorem twice_0 : (1 : Int) = twice 0 := by simp [twice, wrap64]
set_option maxHeartbeats 1000000 in
theorem shifts_any (a b : Int) (k : Nat) (hk64 : k < 64) (hk : bits .and .i64 b 63 = (k : Int)) (f1 : (mN 8 a b != mN 8 a k) = false) (f2 : (mN 9 a b != mN 9 a k) = false) (f3 : (mN 8 a k != mN 13 a (twice k)) = false)
    (f5 : (mN 9 (mN 8 (mN 9 a k) k) k == mN 9 a k) = true) (w : World) :
    Calls Try.prog 7 #[.int .i64 a, .int .i64 b] w fun e w' => e = .returned (.bool true) ∧ Below w.heap.size w w' := by
  have hb0 := Below.refl w.heap.size w
  go_enter Try.func7, Try.ntmps7
  go_wp2_with (go_at_call 17; refine (lm_any _ _ _ w _ (by assumption)).mono ?_; rintro e w' ⟨rfl, hb⟩)
  go_loopw [6, 7] (fun t i wr => ∃ j : Nat, j ≤ k ∧ i = .int .i64 j ∧ t = .int .i64 (twice j) ∧ Below w.heap.size w wr) (fun _ i _ => k - (intOf i).toNat)
  case atStart => exact ⟨0, Nat.zero_le _, rfl, congrArg (Value.int .i64) twice_0, by assumption⟩
  case round =>
    obtain ⟨j, hj, rfl, rfl, hbj⟩ := hrel
    by_cases hlt : j < k
    · go_wp2_with (go_at_call 17; refine (lm_any _ _ _ w _ (by assumption)).mono ?_; rintro e w2 ⟨rfl, hb2⟩)
      go_roundw
      case rel => exact ⟨j + 1, by omega, by go_num, by rw [twice_succ], by assumption⟩
      case measure => simp [intOf]; omega
    · obtain rfl : j = k := by omega
      go_wp2_with (first | (go_at_call 17; refine (lm_any _ _ _ w _ (by assumption)).mono ?_; rintro e w2 ⟨rfl, hb2⟩) | (go_at_call 11; refine (alive_from w _ (by assumption)).mono ?_; rintro e w3 ⟨rfl, h3⟩))
      go_ret
      exact ⟨rfl, by assumption⟩
theorem law_shifts (a b : Int) (ha : fits a) (w : World) :
    Calls Try.prog 7 #[.int .i64 a, .int .i64 b] w fun e w' => e = .returned (.bool true) ∧ Below w.heap.size w w' := by
  obtain ⟨k, hk⟩ : ∃ k : Nat, b % 64 = k := ⟨(b % 64).toNat, by omega⟩
  have hk64 : k < 64 := by omega
  refine shifts_any a b k hk64 (by rw [and63, hk]) ?_ ?_ ?_ ?_ w
  · rw [← hk, s_shl]; simp
  · rw [← hk, s_shr]; simp
  · rw [s_mul a k hk64]; simp
  · rw [s_back a ha k hk64]; simp
end Go.Proofs.Ytlbfnmbodpfepaa
