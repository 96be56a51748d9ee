/- The specification's Do in one statement; what of an operation's registers it looks at. -/
import Derived.Test.YtfkjkdoloamakaaDoorTz
import Derived.Test.YtfkjkdoloamakaaDoorVa
namespace Go.Proofs.YtfkjkdoloamakaaDoor
open Go.RowKit
set_option linter.unusedVariables false
set_option linter.unusedSimpArgs false

theorem rdo_ret {v v' : Int × Int} {t t' : Int} (h1 : v = v') (h2 : t = t') {w : World} {f : Nat} {args : Array Value}
    (h : Calls Tryd.prog f args w fun x w' => x = .returned (.tuple #[vl v', .int .i64 t']) ∧ Below w.heap.size w w') :
    Calls Tryd.prog f args w fun x w' => x = .returned (.tuple #[vl v, .int .i64 t]) ∧ Below w.heap.size w w' := by
  rw [h1, h2]; exact h
set_option maxHeartbeats 1000000 in
theorem refdo_any (k d A B C n g x p y q z r : Int) (hk : known k = true) (hf : fm (x, p) = true) (w : World) :
    Calls Tryd.prog 83 #[.agg #[.int .i64 k, .int .i64 d, .int .i64 A, .int .i64 B, .int .i64 C, .int .i64 n, .int .i64 g], .agg #[.int .i64 x, .int .i64 p], .agg #[.int .i64 y, .int .i64 q], .agg #[.int .i64 z, .int .i64 r]] w fun e w' => e = .returned (.tuple #[vl (doV0 k n (x, p) (y, q) (z, r)), .int .i64 (doT0 k (x, p) (y, q))]) ∧ Below w.heap.size w w' := by
  by_cases h1 : k = 1
  · subst h1
    exact rdo_ret (v' := (n, 0)) (t' := 0) (by simp [doV0]) (by simp [doT0]) (rdo_const d A B C n g x p y q z r w)
  by_cases h2 : k = 2
  · subst h2
    exact rdo_ret (v' := (x, p)) (t' := 0) (by simp [doV0]) (by simp [doT0]) (rdo_move d A B C n g x p y q z r w)
  by_cases h12 : k = 12
  · subst h12
    by_cases hp : p = 0
    · subst hp
      by_cases hx : x = 0
      · subst hx
        exact rdo_ret (v' := (z, r)) (t' := 0) (by simp [doV0]) (by simp [doT0]) (rdo_pick_no d A B C n g y q z r w)
      · exact rdo_ret (v' := (y, q)) (t' := 0) (by simp [doV0, hx]) (by simp [doT0]) (rdo_pick_yes d A B C n g x y q z r hx w)
    · have hx : x = 0 := by simpa [fm, hp] using hf
      exact rdo_ret (v' := (0, p)) (t' := 0) (by simp [doV0, hp, hx]) (by simp [doT0]) (rdo_pick_bad d A B C n g x p y q z r hp w)
  have h2k : two2 k = true := by simpa [known, h1, h2, h12] using hk
  have e1 : doV0 k n (x, p) (y, q) (z, r) = bothV k (x, p) (y, q) := by simp [doV0, h1, h2, h12]
  have e2 : doT0 k (x, p) (y, q) = bothT k (x, p) (y, q) := by simp [doT0, h1, h2, h12]
  rw [e1, e2]
  by_cases h14 : k = 14
  · subst h14
    by_cases hp : p = 0
    · subst hp
      by_cases hq : q = 0
      · subst hq
        by_cases ht : mT 14 y = 0
        · exact rdo_ret (v' := (mN 14 x y, 0)) (t' := 0) (by simp [bothV, bad2, lateK, ht]) (by simp [bothT, bad2, lateK, ht]) (rdo_14_0 d A B C n g x y z r _ rfl ht w)
        · exact rdo_ret (v' := (0, 0)) (t' := mT 14 y) (by simp [bothV, bad2, lateK, lateB, dv, ht]) (by simp [bothT, bad2, lateK, lateB, dv, ht]) (rdo_14_t d A B C n g x y z r _ _ rfl rfl ht w)
      · exact rdo_ret (v' := (0, 0)) (t' := q) (by simp [bothV, bad2, hq, lateK, lateB, dv]) (by simp [bothT, bad2, hq, lateK, lateB, dv]) (rdo_14_b d A B C n g x y q z r hq w)
    · exact rdo_ret (v' := (0, 0)) (t' := p) (by simp [bothV, bad2, hp, lateK, lateB, dv]) (by simp [bothT, bad2, hp, lateK, lateB, dv]) (rdo_14_a d A B C n g x p y q z r hp w)
  by_cases h15 : k = 15
  · subst h15
    by_cases hp : p = 0
    · subst hp
      by_cases hq : q = 0
      · subst hq
        by_cases ht : mT 15 y = 0
        · exact rdo_ret (v' := (mN 15 x y, 0)) (t' := 0) (by simp [bothV, bad2, lateK, ht]) (by simp [bothT, bad2, lateK, ht]) (rdo_15_0 d A B C n g x y z r _ rfl ht w)
        · exact rdo_ret (v' := (0, 0)) (t' := mT 15 y) (by simp [bothV, bad2, lateK, lateB, dv, ht]) (by simp [bothT, bad2, lateK, lateB, dv, ht]) (rdo_15_t d A B C n g x y z r _ _ rfl rfl ht w)
      · exact rdo_ret (v' := (0, 0)) (t' := q) (by simp [bothV, bad2, hq, lateK, lateB, dv]) (by simp [bothT, bad2, hq, lateK, lateB, dv]) (rdo_15_b d A B C n g x y q z r hq w)
    · exact rdo_ret (v' := (0, 0)) (t' := p) (by simp [bothV, bad2, hp, lateK, lateB, dv]) (by simp [bothT, bad2, hp, lateK, lateB, dv]) (rdo_15_a d A B C n g x p y q z r hp w)
  by_cases h23 : k = 23
  · subst h23
    by_cases hp : p = 0
    · subst hp
      by_cases hq : q = 0
      · subst hq
        by_cases ht : mT 14 y = 0
        · exact rdo_ret (v' := (mN 14 x y, 0)) (t' := 0) (by simp [bothV, bad2, lateK, ht]) (by simp [bothT, bad2, lateK, ht]) (rdo_23_0 d A B C n g x y z r _ rfl ht w)
        · exact rdo_ret (v' := (0, mT 14 y)) (t' := 0) (by simp [bothV, bad2, lateK, lateB]; simp only [mN, mT] at ht ⊢; split at ht <;> simp_all) (by simp [bothT, bad2, lateK, lateB]) (rdo_23_t d A B C n g x y z r _ _ rfl rfl ht w)
      · exact rdo_ret (v' := (0, q)) (t' := 0) (by simp [bothV, bad2, hq, lateK, lateB]) (by simp [bothT, bad2, hq, lateK, lateB]) (rdo_23_b d A B C n g x y q z r hq w)
    · exact rdo_ret (v' := (0, p)) (t' := 0) (by simp [bothV, bad2, hp, lateK, lateB]) (by simp [bothT, bad2, hp, lateK, lateB]) (rdo_23_a d A B C n g x p y q z r hp w)
  by_cases h24 : k = 24
  · subst h24
    by_cases hp : p = 0
    · subst hp
      by_cases hq : q = 0
      · subst hq
        by_cases ht : mT 15 y = 0
        · exact rdo_ret (v' := (mN 15 x y, 0)) (t' := 0) (by simp [bothV, bad2, lateK, ht]) (by simp [bothT, bad2, lateK, ht]) (rdo_24_0 d A B C n g x y z r _ rfl ht w)
        · exact rdo_ret (v' := (0, mT 15 y)) (t' := 0) (by simp [bothV, bad2, lateK, lateB]; simp only [mN, mT] at ht ⊢; split at ht <;> simp_all) (by simp [bothT, bad2, lateK, lateB]) (rdo_24_t d A B C n g x y z r _ _ rfl rfl ht w)
      · exact rdo_ret (v' := (0, q)) (t' := 0) (by simp [bothV, bad2, hq, lateK, lateB]) (by simp [bothT, bad2, hq, lateK, lateB]) (rdo_24_b d A B C n g x y q z r hq w)
    · exact rdo_ret (v' := (0, p)) (t' := 0) (by simp [bothV, bad2, hp, lateK, lateB]) (by simp [bothT, bad2, hp, lateK, lateB]) (rdo_24_a d A B C n g x p y q z r hp w)
  have hl : lateK k = k := by unfold lateK; rw [if_neg h23, if_neg h24]
  have hb : lateB k = false := by unfold lateB; exact decide_eq_false (by omega)
  have hd : dv k = false := by unfold dv; exact decide_eq_false (by omega)
  have ht : ∀ y, mT k y = 0 := fun y => by unfold mT; rw [hd]; simp
  by_cases hp : p = 0
  · subst hp
    by_cases hq : q = 0
    · subst hq
      exact rdo_ret (v' := (mN k x y, 0)) (t' := 0) (by simp [bothV, bad2, hl, ht]) (by simp [bothT, bad2, hl, ht]) (rdo_plain k d A B C n g x y z r h1 h2 h12 h14 h15 h23 h24 _ rfl (ht y) w)
    · exact rdo_ret (v' := (0, q)) (t' := 0) (by simp [bothV, bad2, hq, hl, hd]) (by simp [bothT, bad2, hq, hl, hd]) (rdo_plain_b k d A B C n g x y q z r h1 h2 h12 h14 h15 h23 h24 hq w)
  · exact rdo_ret (v' := (0, p)) (t' := 0) (by simp [bothV, bad2, hp, hl, hd]) (by simp [bothT, bad2, hp, hl, hd]) (rdo_plain_a k d A B C n g x p y q z r h1 h2 h12 h14 h15 h23 h24 hp w)

/-- what an operation that Do knows is given: it looks at no register that its kind does not use -/
theorem opx_known (k n : Int) (a b c : Int × Int) (hk : known k = true) :
    doT0 k (if hasA k = true then a else (0, 0)) (if hasB k = true then b else (0, 0)) = doT0 k a b ∧
    doV0 k n (if hasA k = true then a else (0, 0)) (if hasB k = true then b else (0, 0)) (if hasC k = true then c else (0, 0)) = doV0 k n a b c := by
  by_cases h1 : k = 1
  · subst h1; exact ⟨by simp [doT0], by simp [doV0]⟩
  by_cases h2 : k = 2
  · subst h2; exact ⟨by simp [doT0], by simp [doV0, hasA]⟩
  by_cases h12 : k = 12
  · subst h12; exact ⟨by simp [doT0], by simp [doV0, hasA, hasB, hasC]⟩
  have h2k : two2 k = true := by simpa [known, h1, h2, h12] using hk
  have hA : hasA k = true := by
    unfold hasA; simp only [decide_eq_true_eq]; refine ⟨h1, fun e => ?_⟩; subst e; revert h2k; decide
  have hB : hasB k = true := by
    unfold two2 has2 lateK at h2k
    unfold hasB
    simp only [decide_eq_true_eq] at h2k ⊢
    split at h2k
    · omega
    split at h2k
    · omega
    omega
  have hC : hasC k = false := by unfold hasC; exact decide_eq_false h12
  rw [if_pos hA, if_pos hB]
  exact ⟨rfl, by simp [doV0, h1, h2, h12]⟩
end Go.Proofs.YtfkjkdoloamakaaDoor
