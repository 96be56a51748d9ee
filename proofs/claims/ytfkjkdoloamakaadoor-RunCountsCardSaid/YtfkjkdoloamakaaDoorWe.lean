/- What the specification's Math and one compute, for every kind and every two numbers: the same answers as Math of package word. -/
import Derived.Test.YtfkjkdoloamakaaDoorMa
namespace Go.Proofs.YtfkjkdoloamakaaDoor
open Go.RowKit

theorem rone_any (t : Bool) (w : World) : Calls Tryd.prog 120 #[.bool t] w fun e w' => e = .returned (.int .i64 (if t = true then 1 else 0)) ∧ w = w' := by
  cases t
  · go_enter Tryd.func120, Tryd.ntmps120
    go_wp2
    go_ret
    exact ⟨rfl, rfl⟩
  · go_enter Tryd.func120, Tryd.ntmps120
    go_wp2
    go_ret
    exact ⟨rfl, rfl⟩

theorem ret3 {a b : Int} {t : Bool} {a' b' : Int} {t' : Bool} (h1 : a = a') (h2 : b = b') (h3 : t = t') :
    Ending.returned (.tuple #[.int .i64 a, .int .i64 b, .bool t]) = Ending.returned (.tuple #[.int .i64 a', .int .i64 b', .bool t']) := by rw [h1, h2, h3]

theorem rmath_any (k a b : Int) (w : World) :
    Calls Tryd.prog 102 #[.int .i64 k, .int .i64 a, .int .i64 b] w fun e w' => e = .returned (.tuple #[.int .i64 (mN k a b), .int .i64 (mT k b), .bool (has2 k)]) ∧ w = w' := by
  by_cases h2 : has2 k = true
  · have hk := of_decide_eq_true h2
    rw [h2]
    by_cases hd : k = 14 ∨ k = 15
    · have hdv : dv k = true := by simp only [dv, hd, decide_true]
      by_cases h0 : b = 0
      · have e1 : mN k a b = 0 := by simp [mN, h2, hdv, h0]
        have e2 : mT k b = -2 := by simp [mT, hdv, h0]
        rw [e1, e2]
        clear e1 e2 h2 hdv hk
        subst h0
        rcases hd with rfl | rfl
        all_goals
          go_enter Tryd.func102, Tryd.ntmps102
          go_wp2
          go_ret3
          exact ⟨rfl, rfl⟩
      · have e1 : mN k a b = un k a b := by simp [mN, h2, h0]
        have e2 : mT k b = 0 := by simp [mT, h0]
        rw [e1, e2]
        clear e1 e2 h2 hdv hk
        rcases hd with rfl | rfl
        all_goals
          go_enter Tryd.func102, Tryd.ntmps102
          go_wp2
          go_ret3
          exact ⟨rfl, rfl⟩
    · have hdv : dv k = false := by simp only [dv, hd, decide_false]
      have e1 : mN k a b = un k a b := by simp [mN, h2, hdv]
      have e2 : mT k b = 0 := by simp [mT, hdv]
      rw [e1, e2]
      clear e1 e2 h2
      have g0 : (0 : Int) ≤ bits .and .i64 b 63 := by rw [and63]; omega
      have g1 : (bits .and .i64 b 63).toNat ≤ 64 := by rw [and63]; omega
      have gu : IntKind.u64.wrap (bits .and .i64 b 63) = bits .and .i64 b 63 := by rw [IntKind.wrap_u64, and63]; omega
      have hs := shift_shl .i64 .u64 a (bits .and .i64 b 63) g0 (by simp [IntKind.bits]; omega)
      have hq : IntKind.i64.wrap (a * 2 ^ (bits .and .i64 b 63).toNat) = un 8 a b := by rw [and63]; rfl
      rw [hq] at hs
      have hr := shift_shr .i64 .u64 a (bits .and .i64 b 63) g0 (by simp [IntKind.bits]; omega)
      have hq' : a / 2 ^ (bits .and .i64 b 63).toNat = un 9 a b := by rw [and63]; rfl
      rw [hq'] at hr
      clear g0 g1 hq hq' hdv
      have hks : k = 3 ∨ k = 4 ∨ k = 5 ∨ k = 6 ∨ k = 7 ∨ k = 8 ∨ k = 9 ∨ k = 10 ∨ k = 11 ∨ k = 13 := by omega
      clear hk hd
      rcases hks with rfl | rfl | rfl | rfl | rfl | rfl | rfl | rfl | rfl | rfl
      all_goals
        go_enter Tryd.func102, Tryd.ntmps102
        go_wp2_with (go_at_call 120; refine (rone_any _ _).mono ?_; rintro e w' ⟨rfl, rfl⟩)
        all_goals
          go_ret3
          first | exact ⟨rfl, rfl⟩ | exact ⟨ret3 (by simp [un]; try omega) rfl rfl, rfl⟩
  · have h2' : has2 k = false := by simpa using h2
    have e1 : mN k a b = 0 := by simp [mN, h2']
    simp only [has2, decide_eq_false_iff_not] at h2'
    have e2 : mT k b = 0 := by simp [mT, dv]; omega
    rw [e1, e2, show has2 k = false by simpa using h2]
    clear e1 e2 h2
    go_enter Tryd.func102, Tryd.ntmps102
    go_wp2
    go_ret3
    exact ⟨rfl, rfl⟩
end Go.Proofs.YtfkjkdoloamakaaDoor
