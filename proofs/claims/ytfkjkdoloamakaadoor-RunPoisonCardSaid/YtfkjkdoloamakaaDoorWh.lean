/- What both of package word leaves, for every kind of two numbers and all values, in one statement. -/
import Derived.Test.YtfkjkdoloamakaaDoorWg
namespace Go.Proofs.YtfkjkdoloamakaaDoor
open Go.RowKit

/-- the operation of two numbers or of two numbers that leaves poison -/
def two2 (k : Int) : Bool := has2 (lateK k)
/-- the poison of two values: that of the first one, if it has any -/
def bad2 (a b : Int × Int) : Int := if a.2 = 0 then b.2 else a.2
def bothV (k : Int) (a b : Int × Int) : Int × Int :=
  let n := if bad2 a b = 0 then mN (lateK k) a.1 b.1 else 0
  let bad := if bad2 a b = 0 then mT (lateK k) b.1 else bad2 a b
  if bad ≠ 0 ∧ dv (lateK k) = true ∧ lateB k = false then (0, 0) else (n, bad)
def bothT (k : Int) (a b : Int × Int) : Int :=
  let bad := if bad2 a b = 0 then mT (lateK k) b.1 else bad2 a b
  if bad ≠ 0 ∧ dv (lateK k) = true ∧ lateB k = false then bad else 0

theorem inner_any (k a b : Int) (h : has2 k = true) : ∃ o i, tb k = some (o, i) ∧ (o = 136 ∧ dv k = false ∨ o = 137 ∧ dv k = true) ∧ Inner o i a b (mN k a b) (mT k b) := by
  have hk := of_decide_eq_true h
  by_cases hd : k = 14 ∨ k = 15
  · rcases hd with rfl | rfl
    · exact ⟨_, _, rfl, .inr ⟨rfl, rfl⟩, inner_divided 14 a b 134 (ent_of Tryd.func134 (by kernel_rfl) rfl) (.inl rfl) fun a b w h => c11 a b w h⟩
    · exact ⟨_, _, rfl, .inr ⟨rfl, rfl⟩, inner_divided 15 a b 135 (ent_of Tryd.func135 (by kernel_rfl) rfl) (.inr rfl) fun a b w h => c12 a b w h⟩
  · have hdv : dv k = false := by simp only [dv, hd, decide_false]
    have e1 : mN k a b = un k a b := by simp [mN, h, hdv]
    have e2 : mT k b = 0 := by simp [mT, hdv]
    rw [e1, e2]
    have hks : k = 3 ∨ k = 4 ∨ k = 5 ∨ k = 6 ∨ k = 7 ∨ k = 8 ∨ k = 9 ∨ k = 10 ∨ k = 11 ∨ k = 13 := by omega
    rcases hks with rfl | rfl | rfl | rfl | rfl | rfl | rfl | rfl | rfl | rfl
    · exact ⟨_, _, rfl, .inl ⟨rfl, rfl⟩, inner_plain a b _ 122 (ent_of Tryd.func122 (by kernel_rfl) rfl) fun w => c1 a b w⟩
    · exact ⟨_, _, rfl, .inl ⟨rfl, rfl⟩, inner_plain a b _ 123 (ent_of Tryd.func123 (by kernel_rfl) rfl) fun w => c2 a b w⟩
    · exact ⟨_, _, rfl, .inl ⟨rfl, rfl⟩, inner_plain a b _ 124 (ent_of Tryd.func124 (by kernel_rfl) rfl) fun w => c3 a b w⟩
    · exact ⟨_, _, rfl, .inl ⟨rfl, rfl⟩, inner_plain a b _ 125 (ent_of Tryd.func125 (by kernel_rfl) rfl) fun w => c4 a b w⟩
    · exact ⟨_, _, rfl, .inl ⟨rfl, rfl⟩, inner_plain a b _ 126 (ent_of Tryd.func126 (by kernel_rfl) rfl) fun w => c5 a b w⟩
    · exact ⟨_, _, rfl, .inl ⟨rfl, rfl⟩, inner_plain a b _ 127 (ent_of Tryd.func127 (by kernel_rfl) rfl) fun w => c6 a b w⟩
    · exact ⟨_, _, rfl, .inl ⟨rfl, rfl⟩, inner_plain a b _ 128 (ent_of Tryd.func128 (by kernel_rfl) rfl) fun w => c7 a b w⟩
    · exact ⟨_, _, rfl, .inl ⟨rfl, rfl⟩, inner_plain a b _ 129 (ent_of Tryd.func129 (by kernel_rfl) rfl) fun w => c8 a b w⟩
    · exact ⟨_, _, rfl, .inl ⟨rfl, rfl⟩, inner_plain a b _ 131 (ent_of Tryd.func131 (by kernel_rfl) rfl) fun w => c9 a b w⟩
    · exact ⟨_, _, rfl, .inl ⟨rfl, rfl⟩, inner_plain a b _ 132 (ent_of Tryd.func132 (by kernel_rfl) rfl) fun w => c10 a b w⟩

theorem dv_yes {k : Int} (h : dv k = true) : k = 14 ∨ k = 15 := of_decide_eq_true h
theorem dv_no {k : Int} (h : dv k = false) : k ≠ 14 ∧ k ≠ 15 := by
  have := of_decide_eq_false h; omega

theorem both_any (k : Int) (a b : Int × Int) (h : two2 k = true) (w : World) :
    Calls Tryd.prog 118 #[.int .i64 k, vl a, vl b] w fun e w' => e = .returned (.tuple #[vl (bothV k a b), .int .i64 (bothT k a b)]) ∧ Below w.heap.size w w' := by
  obtain ⟨x, p⟩ := a
  obtain ⟨y, r⟩ := b
  obtain ⟨o, i, h1, h2, h3⟩ := inner_any (lateK k) x y h
  by_cases hp : p = 0
  · subst hp
    by_cases hr : r = 0
    · subst hr
      rcases h2 with ⟨rfl, hd⟩ | ⟨rfl, hd⟩
      · have ht : mT (lateK k) y = 0 := by simp [mT, hd]
        rw [ht] at h3
        have e1 : bothV k (x, 0) (y, 0) = (mN (lateK k) x y, 0) := by simp [bothV, bad2, ht]
        have e2 : bothT k (x, 0) (y, 0) = 0 := by simp [bothT, bad2, ht]
        rw [e1, e2]
        exact both_plain k _ x y _ _ i rfl rfl h1 h3 (dv_no hd).1 (dv_no hd).2 w
      · by_cases ht : mT (lateK k) y = 0
        · rw [ht] at h3
          have e1 : bothV k (x, 0) (y, 0) = (mN (lateK k) x y, 0) := by simp [bothV, bad2, ht]
          have e2 : bothT k (x, 0) (y, 0) = 0 := by simp [bothT, bad2, ht]
          rw [e1, e2]
          exact both_div k _ x y _ _ i rfl rfl h1 h3 (dv_yes hd) w
        · by_cases hl : lateB k = true
          · have e1 : bothV k (x, 0) (y, 0) = (mN (lateK k) x y, mT (lateK k) y) := by simp [bothV, bad2, hl]
            have e2 : bothT k (x, 0) (y, 0) = 0 := by simp [bothT, bad2, hl]
            rw [e1, e2]
            exact both_late k _ x y _ _ i rfl hl h1 h3 (dv_yes hd) ht w
          · have hl' : lateB k = false := by simpa using hl
            have e1 : bothV k (x, 0) (y, 0) = (0, 0) := by simp [bothV, bad2, hl', hd, ht]
            have e2 : bothT k (x, 0) (y, 0) = mT (lateK k) y := by simp [bothT, bad2, hl', hd, ht]
            rw [e1, e2]
            exact both_trap k _ x y _ _ i rfl hl' h1 h3 (dv_yes hd) ht w
    · by_cases hd : dv (lateK k) = true
      · by_cases hl : lateB k = true
        · have e1 : bothV k (x, 0) (y, r) = (0, r) := by simp [bothV, bad2, hr, hl]
          have e2 : bothT k (x, 0) (y, r) = 0 := by simp [bothT, bad2, hr, hl]
          rw [e1, e2]
          exact both_bad_b_late k _ x y r hr rfl hl w
        · have hl' : lateB k = false := by simpa using hl
          have e1 : bothV k (x, 0) (y, r) = (0, 0) := by simp [bothV, bad2, hr, hl', hd]
          have e2 : bothT k (x, 0) (y, r) = r := by simp [bothT, bad2, hr, hl', hd]
          rw [e1, e2]
          exact both_bad_b_trap k _ x y r hr rfl hl' (dv_yes hd) w
      · have hd' : dv (lateK k) = false := by simpa using hd
        have e1 : bothV k (x, 0) (y, r) = (0, r) := by simp [bothV, bad2, hr, hd']
        have e2 : bothT k (x, 0) (y, r) = 0 := by simp [bothT, bad2, hr, hd']
        rw [e1, e2]
        exact both_bad_b_plain k _ x y r _ hr rfl rfl (dv_no hd').1 (dv_no hd').2 w
  · by_cases hd : dv (lateK k) = true
    · by_cases hl : lateB k = true
      · have e1 : bothV k (x, p) (y, r) = (0, p) := by simp [bothV, bad2, hp, hl]
        have e2 : bothT k (x, p) (y, r) = 0 := by simp [bothT, bad2, hp, hl]
        rw [e1, e2]
        exact both_bad_a_late k _ x y p r hp rfl hl w
      · have hl' : lateB k = false := by simpa using hl
        have e1 : bothV k (x, p) (y, r) = (0, 0) := by simp [bothV, bad2, hp, hl', hd]
        have e2 : bothT k (x, p) (y, r) = p := by simp [bothT, bad2, hp, hl', hd]
        rw [e1, e2]
        exact both_bad_a_trap k _ x y p r hp rfl hl' (dv_yes hd) w
    · have hd' : dv (lateK k) = false := by simpa using hd
      have e1 : bothV k (x, p) (y, r) = (0, p) := by simp [bothV, bad2, hp, hd']
      have e2 : bothT k (x, p) (y, r) = 0 := by simp [bothT, bad2, hp, hd']
      rw [e1, e2]
      exact both_bad_a_plain k _ x y p r _ hp rfl rfl (dv_no hd').1 (dv_no hd').2 w
end Go.Proofs.YtfkjkdoloamakaaDoor
