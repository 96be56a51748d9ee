/- Check of the specification; refused and few of the laws of layer 9. -/
import Derived.Test.YtfkjkdoloamakaaDoorTd
import Derived.Test.YtfkjkdoloamakaaDoorMh
namespace Go.Proofs.YtfkjkdoloamakaaDoor
open Go.RowKit
set_option linter.unusedVariables false
set_option linter.unusedSimpArgs false
variable {w : World} {F : Nat → Prop} {U : UnS} {Av Ab : Option Addr} {cv cb : Nat}

set_option maxRecDepth 100000 in
set_option maxHeartbeats 1000000 in
theorem refck_any (hu : UnIn F w U Av cv Ab cb) (hz1 : U.sizes.length ≤ 4294967296) (hz2 : U.blocks.length ≤ 4294967296) (hz3 : ∀ b ∈ U.blocks, b.ops.length ≤ 4294967296) :
    Calls Tryd.prog 41 #[unV U Av cv Ab cb] w fun x w' => x = .returned (.int .i64 (unErr U)) ∧ Below w.heap.size w w' := by
  obtain ⟨W0, hW0⟩ : ∃ W0, W0 = w.alloc (.cells (unC U Av cv Ab cb) 25) := ⟨_, rfl⟩
  have hb0 : Below w.heap.size w W0 := by rw [hW0]; exact (Below.refl _ _).alloc (Nat.le_refl _) _
  have hf := rfind_any (hu.below hb0) hz1 hz2 hz3
  obtain ⟨E, hE⟩ : ∃ E, E = unErr U := ⟨_, rfl⟩
  rw [← hE] at hf ⊢
  unfold unV at *
  unfold unC at *
  have HF := Lib.hid hf
  have HW0 := Lib.hid hW0
  have H0 := Lib.hid hb0
  clear hf hW0 hb0 hu hz1 hz2 hz3 hE
  go_enter Tryd.func41, Tryd.ntmps41
  go_wp2_with (go_at_call 73; (rw [← HW0.out]); (with_reducible refine (HF.out).mono ?_); rintro x w1 ⟨i, j, rfl, hb⟩; have HB := Lib.hid hb; clear hb)
  go_ret
  exact ⟨rfl, H0.out.trans (HB.out.mono H0.out.size)⟩

set_option maxRecDepth 100000 in
set_option maxHeartbeats 2000000 in
theorem refused_any (hu : UnIn F w U Av cv Ab cb) (hz1 : U.sizes.length ≤ 4294967296) (hz2 : U.blocks.length ≤ 4294967296) (hz3 : ∀ b ∈ U.blocks, b.ops.length ≤ 4294967296) (Aa : Option Addr) (n ca : Nat) (steps : Int) :
    Calls Tryd.prog 14 #[unV U Av cv Ab cb, .slice Aa n ca, .int .i64 steps] w fun x w' => x = .returned (.int .i64 (errOf (unErr U) U n steps)) ∧ Below w.heap.size w w' := by
  obtain ⟨W0, hW0⟩ : ∃ W0, W0 = w.alloc (.cells (unC U Av cv Ab cb) 25) := ⟨_, rfl⟩
  have hb0 : Below w.heap.size w W0 := by rw [hW0]; exact (Below.refl _ _).alloc (Nat.le_refl _) _
  have hbx : Blk W0 w.heap.size 25 (unC U Av cv Ab cb) := by rw [hW0]; exact blk_new w rfl _ _
  have hf := refck_any (hu.below hb0) hz1 hz2 hz3
  obtain ⟨E, hE⟩ : ∃ E, E = unErr U := ⟨_, rfl⟩
  rw [← hE] at hf ⊢
  obtain ⟨R, hR⟩ : ∃ R, R = errOf E U n steps := ⟨_, rfl⟩
  rw [← hR]
  unfold unV at *
  unfold unC at *
  have HF := Lib.hid hf
  have HW0 := Lib.hid hW0
  have H0 := Lib.hid hb0
  have HBX := Lib.hid hbx
  have HR := Lib.hid hR
  clear hf hW0 hb0 hu hz1 hz2 hz3 hE hbx hR
  by_cases h0 : E = 0
  · subst h0
    have h1 : R = if (n : Int) = U.params ∧ 0 ≤ steps ∧ steps ≤ 4194304 then 0 else 2 := by rw [HR.out]; unfold errOf; rw [if_neg (fun h => h rfl)]
    by_cases c1 : (n : Int) = U.params
    · have cb1 : ((n : Int) != U.params) = false := by simpa using c1
      by_cases c2 : steps < 0
      · have e : R = 2 := by rw [h1, if_neg (by omega)]
        subst e
        clear h1
        go_enter Tryd.func14, Tryd.ntmps14
        go_wp2_with (go_at_call 41; (rw [← HW0.out]); (with_reducible refine (HF.out).mono ?_); rintro x w1 ⟨rfl, hb⟩; have c1' : w1.cell? ⟨w.heap.size, 1, none⟩ = some (.int .i64 U.params) := ((HBX.out.below hb).cell 1).trans rfl; have HB := Lib.hid hb; clear hb)
        go_ret
        exact ⟨rfl, H0.out.trans (HB.out.mono H0.out.size)⟩
      · by_cases c3 : 4194304 < steps
        · have e : R = 2 := by rw [h1, if_neg (by omega)]
          subst e
          clear h1
          go_enter Tryd.func14, Tryd.ntmps14
          go_wp2_with (go_at_call 41; (rw [← HW0.out]); (with_reducible refine (HF.out).mono ?_); rintro x w1 ⟨rfl, hb⟩; have c1' : w1.cell? ⟨w.heap.size, 1, none⟩ = some (.int .i64 U.params) := ((HBX.out.below hb).cell 1).trans rfl; have HB := Lib.hid hb; clear hb)
          go_ret
          exact ⟨rfl, H0.out.trans (HB.out.mono H0.out.size)⟩
        · have e : R = 0 := by rw [h1, if_pos ⟨c1, by omega, by omega⟩]
          subst e
          clear h1
          go_enter Tryd.func14, Tryd.ntmps14
          go_wp2_with (go_at_call 41; (rw [← HW0.out]); (with_reducible refine (HF.out).mono ?_); rintro x w1 ⟨rfl, hb⟩; have c1' : w1.cell? ⟨w.heap.size, 1, none⟩ = some (.int .i64 U.params) := ((HBX.out.below hb).cell 1).trans rfl; have HB := Lib.hid hb; clear hb)
          go_ret
          exact ⟨rfl, H0.out.trans (HB.out.mono H0.out.size)⟩
    · have e : R = 2 := by rw [h1, if_neg (fun h => c1 h.1)]
      have cb1 : ((n : Int) != U.params) = true := by simpa using c1
      subst e
      clear h1
      go_enter Tryd.func14, Tryd.ntmps14
      go_wp2_with (go_at_call 41; (rw [← HW0.out]); (with_reducible refine (HF.out).mono ?_); rintro x w1 ⟨rfl, hb⟩; have c1' : w1.cell? ⟨w.heap.size, 1, none⟩ = some (.int .i64 U.params) := ((HBX.out.below hb).cell 1).trans rfl; have HB := Lib.hid hb; clear hb)
      go_ret
      exact ⟨rfl, H0.out.trans (HB.out.mono H0.out.size)⟩
  · have e : R = E := by rw [HR.out]; unfold errOf; rw [if_pos h0]
    subst e
    have hb0 : (R != 0) = true := by simpa using h0
    clear h0
    go_enter Tryd.func14, Tryd.ntmps14
    go_wp2_with (go_at_call 41; (rw [← HW0.out]); (with_reducible refine (HF.out).mono ?_); rintro x w1 ⟨rfl, hb⟩; have HB := Lib.hid hb; clear hb)
    go_ret
    exact ⟨rfl, H0.out.trans (HB.out.mono H0.out.size)⟩
/-- the numbers that few keeps -/
def fewL (l : List Int) : List Int := l.take 9
theorem fewL_len (l : List Int) : (fewL l).length ≤ 9 := by unfold fewL; simp; omega
theorem fewL_id {l : List Int} (h : l.length ≤ 9) : fewL l = l := List.take_of_length_le h
end Go.Proofs.YtfkjkdoloamakaaDoor
