/- What Math of package word computes: for every kind and every two numbers. -/
import Derived.Test.YtfkjkdoloamakaaDoorWc
namespace Go.Proofs.YtfkjkdoloamakaaDoor
open Go.RowKit

theorem table_plain (k : Int) (i : Nat) (h : tb k = some (136, i)) (w : World) :
    Calls Tryd.prog 116 #[.int .i64 k] w fun e w' => e = .returned (.func (.func 136) #[] #[.pointer (some ⟨w.heap.size, 0, none⟩)]) ∧ w' = w.alloc (.cells #[.func (.func i) #[] #[]] 181) := by
  have h1 : tbV k w = .func (.func 136) #[] #[.pointer (some ⟨w.heap.size, 0, none⟩)] := by simp only [tbV, h]
  have h2 : tbW k w = w.alloc (.cells #[.func (.func i) #[] #[]] 181) := by simp only [tbW, h]
  rw [← h1, ← h2]; exact table_any k w
theorem table_divided (k : Int) (i : Nat) (h : tb k = some (137, i)) (w : World) :
    Calls Tryd.prog 116 #[.int .i64 k] w fun e w' => e = .returned (.func (.func 137) #[] #[.pointer (some ⟨w.heap.size, 0, none⟩)]) ∧ w' = w.alloc (.cells #[.func (.func i) #[] #[]] 181) := by
  have h1 : tbV k w = .func (.func 137) #[] #[.pointer (some ⟨w.heap.size, 0, none⟩)] := by simp only [tbV, h]
  have h2 : tbW k w = w.alloc (.cells #[.func (.func i) #[] #[]] 181) := by simp only [tbW, h]
  rw [← h1, ← h2]; exact table_any k w
theorem table_none (k : Int) (h : tb k = none) (w : World) :
    Calls Tryd.prog 116 #[.int .i64 k] w fun e w' => e = .returned .nilFunc ∧ w = w' := by
  have h1 : tbV k w = .nilFunc := by simp only [tbV, h]
  have h2 : tbW k w = w := by simp only [tbW, h]
  refine (table_any k w).mono fun e w' h => ?_
  rw [h1, h2] at h; exact ⟨h.1, h.2.symm⟩

/-- a closure that table returns, called: what it answers, and its trap -/
def Inner (o i : Nat) (a b n t : Int) : Prop := ∀ (p : Addr) (w : World), w.cell? p = some (.func (.func i) #[] #[]) →
  Calls Tryd.prog o #[.int .i64 a, .int .i64 b, .pointer (some p)] w fun e w' => e = .returned (.tuple #[.int .i64 n, .int .i64 t]) ∧ ∃ m, w' = w.drewN m

theorem drewN_below {B : Nat} {W w' : World} (h : Below B W w') (n : Nat) : Below B W (w'.drewN n) := ⟨h.os, h.tape, h.output, h.size, h.block⟩

theorem inner_plain (a b r : Int) (i : Nat) (hent : Ent i) (hg : ∀ w : World, Calls Tryd.prog i #[.int .i64 a, .int .i64 b] w fun e w' => e = .returned (.int .i64 r) ∧ w = w') :
    Inner 136 i a b r 0 := fun p w hp => (plain1_any i hent a b r p w hp hg).mono fun _ _ h => ⟨h.1, 0, h.2.symm⟩

/-- whether there is such an operation of two numbers -/
def has2 (k : Int) : Bool := decide (3 ≤ k ∧ k ≤ 11 ∨ 13 ≤ k ∧ k ≤ 15)
/-- whether it can trap -/
def dv (k : Int) : Bool := decide (k = 14 ∨ k = 15)
/-- Math's answers -/
def mN (k a b : Int) : Int := if has2 k then (if dv k = true ∧ b = 0 then 0 else un k a b) else 0
def mT (k b : Int) : Int := if dv k = true ∧ b = 0 then -2 else 0
def mE (k : Int) : Int := if has2 k then 0 else 2

theorem tb_none (k : Int) (h : has2 k = false) : tb k = none := by
  simp only [has2, decide_eq_false_iff_not] at h
  have h3 : k ≠ 3 := by omega
  have h4 : k ≠ 4 := by omega
  have h5 : k ≠ 5 := by omega
  have h6 : k ≠ 6 := by omega
  have h7 : k ≠ 7 := by omega
  have h8 : k ≠ 8 := by omega
  have h9 : k ≠ 9 := by omega
  have h10 : k ≠ 10 := by omega
  have h11 : k ≠ 11 := by omega
  have h13 : k ≠ 13 := by omega
  have h14 : k ≠ 14 := by omega
  have h15 : k ≠ 15 := by omega
  simp only [tb, if_neg h3, if_neg h4, if_neg h5, if_neg h6, if_neg h7, if_neg h8, if_neg h9, if_neg h10, if_neg h11, if_neg h13, if_neg h14, if_neg h15]

theorem un_div_neg (a : Int) : wrap64 (un 14 a 1 * un 14 (-1) 1) = un 14 a (-1) := by
  simp [un]; unfold wrap64; omega
theorem un_rem_neg (a : Int) : wrap64 (un 15 a 1 * un 15 (-1) 1) = un 15 a (-1) := by
  simp [un]; unfold wrap64; omega

theorem un_neg (k a : Int) (hk : k = 14 ∨ k = 15) : wrap64 (un k a 1 * un k (-1) 1) = un k a (-1) := by
  rcases hk with rfl | rfl
  · exact un_div_neg a
  · exact un_rem_neg a

theorem inner_divided (k a b : Int) (i : Nat) (hent : Ent i) (hk : k = 14 ∨ k = 15) (hc : ∀ (a b : Int) (w : World), b ≠ 0 → Calls Tryd.prog i #[.int .i64 a, .int .i64 b] w fun e w' => e = .returned (.int .i64 (un k a b)) ∧ w = w') :
    Inner 137 i a b (mN k a b) (mT k b) := by
  intro p w hp
  have hd : dv k = true := by simp [dv, hk]
  have h2 : has2 k = true := by simp [has2]; omega
  by_cases h0 : b = 0
  · subst h0
    have e1 : mN k a 0 = 0 := by simp [mN, h2, hd]
    have e2 : mT k 0 = -2 := by simp [mT, hd]
    rw [e1, e2]
    exact (divided1_zero a p w).mono fun _ _ h => ⟨h.1, 0, h.2.symm⟩
  · have e1 : mN k a b = un k a b := by simp [mN, h2, h0]
    have e2 : mT k b = 0 := by simp [mT, h0]
    rw [e1, e2]
    by_cases h1 : b = -1
    · subst h1
      have e3 : wrap64 (un k a 1 * un k (-1) 1) = un k a (-1) := un_neg k a hk
      rw [← e3]
      exact divided1_neg i hent a _ _ p w hp (fun w => hc a 1 w (by decide)) (fun w => hc (-1) 1 w (by decide))
    · exact (divided1_some i hent a b _ h0 h1 p w hp (fun w => hc a b w h0)).mono fun _ _ h => ⟨h.1, 0, h.2.symm⟩

end Go.Proofs.YtfkjkdoloamakaaDoor
