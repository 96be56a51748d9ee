/- The small functions of the specification that speak of kinds, walked. -/
import Derived.Test.YtfkjkdoloamakaaDoorVa
import Derived.Test.YtfkjkdoloamakaaDoorMg
namespace Go.Proofs.YtfkjkdoloamakaaDoor
open Go.RowKit
set_option linter.unusedVariables false
set_option linter.unusedSimpArgs false
variable {w : World} {F : Nat → Prop} {U : UnS} {Av Ab : Option Addr} {cv cb : Nat}

def isArr (k : Int) : Bool := decide (k = 16 ∨ k = 17 ∨ k = 25)
def isCell (k : Int) : Bool := decide (k = 18 ∨ k = 19)
def isOne (k : Int) : Bool := decide (1 ≤ k ∧ k ≤ 25)
theorem rD_any (k : Int) (w : World) : Calls Tryd.prog 45 #[.int .i64 k] w fun x w' => x = .returned (.bool (hasD k)) ∧ w = w' := by
  by_cases h0 : k = 17
  · subst h0; go_enter Tryd.func45, Tryd.ntmps45; go_wp2; go_ret; exact ⟨rfl, rfl⟩
  by_cases h1 : k = 19
  · subst h1; go_enter Tryd.func45, Tryd.ntmps45; go_wp2; go_ret; exact ⟨rfl, rfl⟩
  by_cases h2 : k = 20
  · subst h2; go_enter Tryd.func45, Tryd.ntmps45; go_wp2; go_ret; exact ⟨rfl, rfl⟩
  by_cases h3 : k = 21
  · subst h3; go_enter Tryd.func45, Tryd.ntmps45; go_wp2; go_ret; exact ⟨rfl, rfl⟩
  by_cases h4 : k = 22
  · subst h4; go_enter Tryd.func45, Tryd.ntmps45; go_wp2; go_ret; exact ⟨rfl, rfl⟩
  have e : hasD k = true := by unfold hasD; simp only [decide_eq_true_eq]; omega
  rw [e]
  have e0 : (k != 17) = true := by simpa using h0
  have e1 : (k != 19) = true := by simpa using h1
  have e2 : (k != 20) = true := by simpa using h2
  have e3 : (k != 21) = true := by simpa using h3
  have e4 : (k != 22) = true := by simpa using h4
  clear e h0 h1 h2 h3 h4
  go_enter Tryd.func45, Tryd.ntmps45; go_wp2; go_ret; exact ⟨rfl, rfl⟩
theorem rA_any (k : Int) (w : World) : Calls Tryd.prog 46 #[.int .i64 k] w fun x w' => x = .returned (.bool (hasA k)) ∧ w = w' := by
  by_cases h0 : k = 1
  · subst h0; go_enter Tryd.func46, Tryd.ntmps46; go_wp2; go_ret; exact ⟨rfl, rfl⟩
  by_cases h1 : k = 18
  · subst h1; go_enter Tryd.func46, Tryd.ntmps46; go_wp2; go_ret; exact ⟨rfl, rfl⟩
  have e : hasA k = true := by unfold hasA; simp only [decide_eq_true_eq]; omega
  rw [e]
  have e0 : (k != 1) = true := by simpa using h0
  have e1 : (k != 18) = true := by simpa using h1
  clear e h0 h1
  go_enter Tryd.func46, Tryd.ntmps46; go_wp2; go_ret; exact ⟨rfl, rfl⟩
theorem rC_any (k : Int) (w : World) : Calls Tryd.prog 48 #[.int .i64 k] w fun x w' => x = .returned (.bool (hasC k)) ∧ w = w' := by
  by_cases h0 : k = 12
  · subst h0; go_enter Tryd.func48, Tryd.ntmps48; go_wp2; go_ret; exact ⟨rfl, rfl⟩
  have e : hasC k = false := by unfold hasC; simp only [decide_eq_false_iff_not]; omega
  rw [e]
  have e0 : (k == 12) = false := by simpa using h0
  clear e h0
  go_enter Tryd.func48, Tryd.ntmps48; go_wp2; go_ret; exact ⟨rfl, rfl⟩
theorem rArr_any (k : Int) (w : World) : Calls Tryd.prog 84 #[.int .i64 k] w fun x w' => x = .returned (.bool (isArr k)) ∧ w = w' := by
  by_cases h0 : k = 16
  · subst h0; go_enter Tryd.func84, Tryd.ntmps84; go_wp2; go_ret; exact ⟨rfl, rfl⟩
  by_cases h1 : k = 17
  · subst h1; go_enter Tryd.func84, Tryd.ntmps84; go_wp2; go_ret; exact ⟨rfl, rfl⟩
  by_cases h2 : k = 25
  · subst h2; go_enter Tryd.func84, Tryd.ntmps84; go_wp2; go_ret; exact ⟨rfl, rfl⟩
  have e : isArr k = false := by unfold isArr; simp only [decide_eq_false_iff_not]; omega
  rw [e]
  have e0 : (k == 16) = false := by simpa using h0
  have e1 : (k == 17) = false := by simpa using h1
  have e2 : (k == 25) = false := by simpa using h2
  clear e h0 h1 h2
  go_enter Tryd.func84, Tryd.ntmps84; go_wp2; go_ret; exact ⟨rfl, rfl⟩
theorem rCell_any (k : Int) (w : World) : Calls Tryd.prog 107 #[.int .i64 k] w fun x w' => x = .returned (.bool (isCell k)) ∧ w = w' := by
  by_cases h0 : k = 18
  · subst h0; go_enter Tryd.func107, Tryd.ntmps107; go_wp2; go_ret; exact ⟨rfl, rfl⟩
  by_cases h1 : k = 19
  · subst h1; go_enter Tryd.func107, Tryd.ntmps107; go_wp2; go_ret; exact ⟨rfl, rfl⟩
  have e : isCell k = false := by unfold isCell; simp only [decide_eq_false_iff_not]; omega
  rw [e]
  have e0 : (k == 18) = false := by simpa using h0
  have e1 : (k == 19) = false := by simpa using h1
  clear e h0 h1
  go_enter Tryd.func107, Tryd.ntmps107; go_wp2; go_ret; exact ⟨rfl, rfl⟩
theorem rB_any (k : Int) (w : World) : Calls Tryd.prog 47 #[.int .i64 k] w fun x w' => x = .returned (.bool (hasB k)) ∧ w = w' := by
  by_cases h1 : k = 17
  · subst h1; go_enter Tryd.func47, Tryd.ntmps47; go_wp2; go_ret; exact ⟨rfl, rfl⟩
  by_cases h2 : k = 23
  · subst h2; go_enter Tryd.func47, Tryd.ntmps47; go_wp2; go_ret; exact ⟨rfl, rfl⟩
  by_cases h3 : k = 24
  · subst h3; go_enter Tryd.func47, Tryd.ntmps47; go_wp2; go_ret; exact ⟨rfl, rfl⟩
  have e1 : (k == 17) = false := by simpa using h1
  have e2 : (k == 23) = false := by simpa using h2
  have e3 : (k == 24) = false := by simpa using h3
  by_cases h4 : 3 ≤ k
  · by_cases h5 : k ≤ 15
    · have e : hasB k = true := decide_eq_true (.inl ⟨h4, h5⟩)
      rw [e]
      clear e h1 h2 h3
      go_enter Tryd.func47, Tryd.ntmps47; go_wp2; go_ret; exact ⟨rfl, rfl⟩
    · have e : hasB k = false := decide_eq_false (by omega)
      rw [e]
      clear e h1 h2 h3
      go_enter Tryd.func47, Tryd.ntmps47; go_wp2; go_ret; exact ⟨rfl, rfl⟩
  · have e : hasB k = false := decide_eq_false (by omega)
    rw [e]
    clear e h1 h2 h3
    go_enter Tryd.func47, Tryd.ntmps47; go_wp2; go_ret; exact ⟨rfl, rfl⟩
theorem rOne_any (k : Int) (w : World) : Calls Tryd.prog 106 #[.int .i64 k] w fun x w' => x = .returned (.bool (isOne k)) ∧ w = w' := by
  by_cases h4 : 1 ≤ k
  · by_cases h5 : k ≤ 25
    · have e : isOne k = true := decide_eq_true ⟨h4, h5⟩
      rw [e]
      clear e
      go_enter Tryd.func106, Tryd.ntmps106; go_wp2; go_ret; exact ⟨rfl, rfl⟩
    · have e : isOne k = false := decide_eq_false (by omega)
      rw [e]
      clear e
      go_enter Tryd.func106, Tryd.ntmps106; go_wp2; go_ret; exact ⟨rfl, rfl⟩
  · have e : isOne k = false := decide_eq_false (by omega)
    rw [e]
    clear e
    go_enter Tryd.func106, Tryd.ntmps106; go_wp2; go_ret; exact ⟨rfl, rfl⟩
def isN (k : Int) : Bool := decide (k = 1 ∨ (k = 16 ∨ k = 17 ∨ k = 25) ∨ (k = 18 ∨ k = 19) ∨ k = 21)
theorem rN_any (k : Int) (w : World) : Calls Tryd.prog 108 #[.int .i64 k] w fun x w' => x = .returned (.bool (isN k)) ∧ w = w' := by
  by_cases h1 : k = 1
  · subst h1; go_enter Tryd.func108, Tryd.ntmps108; go_wp2; go_ret; exact ⟨rfl, rfl⟩
  have e1 : (k == 1) = false := by simpa using h1
  by_cases h2 : k = 16 ∨ k = 17 ∨ k = 25
  · have HA := Lib.hid fun W => (show isArr k = true from decide_eq_true h2) ▸ rArr_any k W
    have e : isN k = true := decide_eq_true (.inr (.inl h2))
    rw [e]
    clear e h1 h2
    go_enter Tryd.func108, Tryd.ntmps108
    go_wp2_with (go_at_call 84; (with_reducible refine (HA.out _).mono ?_); rintro x w3 ⟨rfl, rfl⟩)
    go_ret; exact ⟨rfl, rfl⟩
  have HA := Lib.hid fun W => (show isArr k = false from decide_eq_false h2) ▸ rArr_any k W
  by_cases h3 : k = 18 ∨ k = 19
  · have HC := Lib.hid fun W => (show isCell k = true from decide_eq_true h3) ▸ rCell_any k W
    have e : isN k = true := decide_eq_true (.inr (.inr (.inl h3)))
    rw [e]
    clear e h1 h2 h3
    go_enter Tryd.func108, Tryd.ntmps108
    go_wp2_with (first | (go_at_call 84; (with_reducible refine (HA.out _).mono ?_); rintro x w3 ⟨rfl, rfl⟩) | (go_at_call 107; (with_reducible refine (HC.out _).mono ?_); rintro x w3 ⟨rfl, rfl⟩))
    go_ret; exact ⟨rfl, rfl⟩
  have HC := Lib.hid fun W => (show isCell k = false from decide_eq_false h3) ▸ rCell_any k W
  by_cases h4 : k = 21
  · have e : isN k = true := decide_eq_true (.inr (.inr (.inr h4)))
    rw [e]
    have e4 : (k == 21) = true := by simpa using h4
    clear e h1 h2 h3 h4
    go_enter Tryd.func108, Tryd.ntmps108
    go_wp2_with (first | (go_at_call 84; (with_reducible refine (HA.out _).mono ?_); rintro x w3 ⟨rfl, rfl⟩) | (go_at_call 107; (with_reducible refine (HC.out _).mono ?_); rintro x w3 ⟨rfl, rfl⟩))
    go_ret; exact ⟨rfl, rfl⟩
  · have e : isN k = false := decide_eq_false (by omega)
    rw [e]
    have e4 : (k == 21) = false := by simpa using h4
    clear e h1 h2 h3 h4
    go_enter Tryd.func108, Tryd.ntmps108
    go_wp2_with (first | (go_at_call 84; (with_reducible refine (HA.out _).mono ?_); rintro x w3 ⟨rfl, rfl⟩) | (go_at_call 107; (with_reducible refine (HC.out _).mono ?_); rintro x w3 ⟨rfl, rfl⟩))
    go_ret; exact ⟨rfl, rfl⟩
theorem rReg_any (r : Int) (w : World) : Calls Tryd.prog 88 #[unV U Av cv Ab cb, .int .i64 r] w fun x w' => x = .returned (.bool (decide (inR r U.regs))) ∧ Below w.heap.size w w' := by
  have hb0 : Below w.heap.size w (w.alloc (.cells (unC U Av cv Ab cb) 25)) := (Below.refl _ _).alloc (Nat.le_refl _) _
  have H0 := Lib.hid hb0
  clear hb0
  by_cases h1 : 0 ≤ r
  · by_cases h2 : r < U.regs
    · rw [decide_eq_true (show inR r U.regs from ⟨h1, h2⟩)]
      unfold unC unV at *
      go_enter Tryd.func88, Tryd.ntmps88; go_wp2; go_ret; exact ⟨rfl, H0.out⟩
    · rw [decide_eq_false (show ¬ inR r U.regs from fun h => h2 h.2)]
      unfold unC unV at *
      go_enter Tryd.func88, Tryd.ntmps88; go_wp2; go_ret; exact ⟨rfl, H0.out⟩
  · rw [decide_eq_false (show ¬ inR r U.regs from fun h => h1 h.1)]
    unfold unC unV at *
    go_enter Tryd.func88, Tryd.ntmps88; go_wp2; go_ret; exact ⟨rfl, H0.out⟩
theorem rThere_any (r : Int) (w : World) : Calls Tryd.prog 109 #[unV U Av cv Ab cb, .int .i64 r] w fun x w' => x = .returned (.bool (decide (inR r U.blocks.length))) ∧ Below w.heap.size w w' := by
  have hb0 : Below w.heap.size w (w.alloc (.cells (unC U Av cv Ab cb) 25)) := (Below.refl _ _).alloc (Nat.le_refl _) _
  have H0 := Lib.hid hb0
  clear hb0
  by_cases h1 : 0 ≤ r
  · by_cases h2 : r < U.blocks.length
    · rw [decide_eq_true (show inR r U.blocks.length from ⟨h1, h2⟩)]
      unfold unC unV at *
      go_enter Tryd.func109, Tryd.ntmps109; go_wp2; go_ret; exact ⟨rfl, H0.out⟩
    · rw [decide_eq_false (show ¬ inR r U.blocks.length from fun h => h2 h.2)]
      unfold unC unV at *
      go_enter Tryd.func109, Tryd.ntmps109; go_wp2; go_ret; exact ⟨rfl, H0.out⟩
  · rw [decide_eq_false (show ¬ inR r U.blocks.length from fun h => h1 h.1)]
    unfold unC unV at *
    go_enter Tryd.func109, Tryd.ntmps109; go_wp2; go_ret; exact ⟨rfl, H0.out⟩
end Go.Proofs.YtfkjkdoloamakaaDoor
