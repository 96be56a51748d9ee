/- What the specification's Do answers where the kind is one of Do's and the values are formed: the same as Do of package word. -/
import Derived.Test.YtlbfnmbodpfepaaWl
namespace Go.Proofs.Ytlbfnmbodpfepaa
open Go.RowKit

theorem rdo_ret {v v' : Int × Int} {t t' : Int} (h1 : v = v') (h2 : t = t') {w : World} {f : Nat} {args : Array Value}
    (h : Calls Try.prog f args w fun x w' => x = .returned (.tuple #[vl v', .int .i64 t']) ∧ Below w.heap.size w w') :
    Calls Try.prog f args w fun x w' => x = .returned (.tuple #[vl v, .int .i64 t]) ∧ Below w.heap.size w w' := by
  rw [h1, h2]; exact h
theorem mN_zero {k b : Int} (a : Int) (h : mT k b ≠ 0) : mN k a b = 0 := by
  unfold mT at h; unfold mN
  split at h
  · rename_i hd; rw [if_pos hd]; split <;> rfl
  · exact absurd rfl h
theorem fm_bad {x p : Int} (h : fm (x, p) = true) (hp : p ≠ 0) : x = 0 := by
  simpa [fm, hp] using h

set_option maxHeartbeats 1000000 in
theorem rdo_any (o : OpI) (a b c : Int × Int) (hk : known o.k = true) (hf : fm3 a b c = true) (w : World) :
    Calls Try.prog 16 #[opV o, vl a, vl b, vl c] w fun e w' => e = .returned (.tuple #[vl (doV0 o.k o.n a b c), .int .i64 (doT0 o.k a b)]) ∧ Below w.heap.size w w' := by
  obtain ⟨k, d, A, B, C, n, g⟩ := o
  obtain ⟨x, p⟩ := a
  obtain ⟨y, q⟩ := b
  obtain ⟨z, r⟩ := c
  show Calls Try.prog 16 #[opV ⟨k, d, A, B, C, n, g⟩, vl (x, p), vl (y, q), vl (z, r)] w fun e w' => e = .returned (.tuple #[vl (doV0 k n (x, p) (y, q) (z, r)), .int .i64 (doT0 k (x, p) (y, q))]) ∧ Below w.heap.size w w'
  have hk : known k = true := hk
  simp only [fm3, Bool.and_eq_true] at hf
  obtain ⟨f1, f2, f3⟩ := hf
  by_cases h1 : k = 1
  · subst h1
    exact rdo_ret rfl rfl (rdo_const d A B C n g x p y q z r w)
  by_cases h2 : k = 2
  · subst h2
    exact rdo_ret rfl rfl (rdo_move d A B C n g x p y q z r w)
  by_cases h12 : k = 12
  · subst h12
    by_cases hp : p = 0
    · subst hp
      by_cases hx : x = 0
      · subst hx
        exact rdo_ret rfl rfl (rdo_pick_no d A B C n g y q z r w)
      · exact rdo_ret (v' := (y, q)) (by simp [doV0, hx]) rfl (rdo_pick_yes d A B C n g x y q z r hx w)
    · exact rdo_ret (v' := (0, p)) (by simp [doV0, hp, fm_bad f1 hp]) rfl (rdo_pick_bad d A B C n g x p y q z r hp w)
  have h2k : two2 k = true := by simpa [known, h1, h2, h12] using hk
  have e1 : doV0 k n (x, p) (y, q) (z, r) = bothV k (x, p) (y, q) := by simp [doV0, h1, h2, h12]
  have e2 : doT0 k (x, p) (y, q) = bothT k (x, p) (y, q) := by simp [doT0, h1, h2, h12]
  rw [e1, e2]
  clear e1 e2 hk f1 f2 f3
  by_cases h14 : k = 14
  · subst h14
    by_cases hp : p = 0
    · subst hp
      by_cases hq : q = 0
      · subst hq
        by_cases ht : mT 14 y = 0
        · exact rdo_ret (v' := (mN 14 x y, 0)) (t' := 0) (by simp [bothV, bad2, ht, lateK]) (by simp [bothT, bad2, ht, lateK]) (rdo_14_0 d A B C n g x y z r _ rfl ht w)
        · exact rdo_ret (v' := (0, 0)) (t' := mT 14 y) (by simp [bothV, bad2, ht, lateK, lateB, dv]) (by simp [bothT, bad2, lateK, lateB, dv]; try exact fun h => h.symm) (rdo_14_t d A B C n g x y z r _ _ rfl rfl ht w)
      · exact rdo_ret (v' := (0, 0)) (t' := q) (by simp [bothV, bad2, hq, lateK, lateB, dv]) (by simp [bothT, bad2, hq, lateK, lateB, dv]) (rdo_14_b d A B C n g x y q z r hq w)
    · exact rdo_ret (v' := (0, 0)) (t' := p) (by simp [bothV, bad2, hp, lateK, lateB, dv]) (by simp [bothT, bad2, hp, lateK, lateB, dv]) (rdo_14_a d A B C n g x p y q z r hp w)
  by_cases h15 : k = 15
  · subst h15
    by_cases hp : p = 0
    · subst hp
      by_cases hq : q = 0
      · subst hq
        by_cases ht : mT 15 y = 0
        · exact rdo_ret (v' := (mN 15 x y, 0)) (t' := 0) (by simp [bothV, bad2, ht, lateK]) (by simp [bothT, bad2, ht, lateK]) (rdo_15_0 d A B C n g x y z r _ rfl ht w)
        · exact rdo_ret (v' := (0, 0)) (t' := mT 15 y) (by simp [bothV, bad2, ht, lateK, lateB, dv]) (by simp [bothT, bad2, lateK, lateB, dv]; try exact fun h => h.symm) (rdo_15_t d A B C n g x y z r _ _ rfl rfl ht w)
      · exact rdo_ret (v' := (0, 0)) (t' := q) (by simp [bothV, bad2, hq, lateK, lateB, dv]) (by simp [bothT, bad2, hq, lateK, lateB, dv]) (rdo_15_b d A B C n g x y q z r hq w)
    · exact rdo_ret (v' := (0, 0)) (t' := p) (by simp [bothV, bad2, hp, lateK, lateB, dv]) (by simp [bothT, bad2, hp, lateK, lateB, dv]) (rdo_15_a d A B C n g x p y q z r hp w)
  by_cases h23 : k = 23
  · subst h23
    by_cases hp : p = 0
    · subst hp
      by_cases hq : q = 0
      · subst hq
        by_cases ht : mT 14 y = 0
        · exact rdo_ret (v' := (mN 14 x y, 0)) (t' := 0) (by simp [bothV, bad2, ht, lateK]) (by simp [bothT, bad2, ht, lateK]) (rdo_23_0 d A B C n g x y z r _ rfl ht w)
        · exact rdo_ret (v' := (0, mT 14 y)) (t' := 0) (by simp [bothV, bad2, lateK, lateB, mN_zero x ht]) (by simp [bothT, bad2, lateK, lateB]) (rdo_23_t d A B C n g x y z r _ _ rfl rfl ht w)
      · exact rdo_ret (v' := (0, q)) (t' := 0) (by simp [bothV, bad2, hq, lateK, lateB]) (by simp [bothT, bad2, hq, lateK, lateB]) (rdo_23_b d A B C n g x y q z r hq w)
    · exact rdo_ret (v' := (0, p)) (t' := 0) (by simp [bothV, bad2, hp, lateK, lateB]) (by simp [bothT, bad2, hp, lateK, lateB]) (rdo_23_a d A B C n g x p y q z r hp w)
  by_cases h24 : k = 24
  · subst h24
    by_cases hp : p = 0
    · subst hp
      by_cases hq : q = 0
      · subst hq
        by_cases ht : mT 15 y = 0
        · exact rdo_ret (v' := (mN 15 x y, 0)) (t' := 0) (by simp [bothV, bad2, ht, lateK]) (by simp [bothT, bad2, ht, lateK]) (rdo_24_0 d A B C n g x y z r _ rfl ht w)
        · exact rdo_ret (v' := (0, mT 15 y)) (t' := 0) (by simp [bothV, bad2, lateK, lateB, mN_zero x ht]) (by simp [bothT, bad2, lateK, lateB]) (rdo_24_t d A B C n g x y z r _ _ rfl rfl ht w)
      · exact rdo_ret (v' := (0, q)) (t' := 0) (by simp [bothV, bad2, hq, lateK, lateB]) (by simp [bothT, bad2, hq, lateK, lateB]) (rdo_24_b d A B C n g x y q z r hq w)
    · exact rdo_ret (v' := (0, p)) (t' := 0) (by simp [bothV, bad2, hp, lateK, lateB]) (by simp [bothT, bad2, hp, lateK, lateB]) (rdo_24_a d A B C n g x p y q z r hp w)
  have el : lateK k = k := by simp [lateK, h23, h24]
  have hd : dv k = false := by simp [dv, h14, h15]
  have ht : mT k y = 0 := by simp [mT, hd]
  by_cases hp : p = 0
  · subst hp
    by_cases hq : q = 0
    · subst hq
      exact rdo_ret (v' := (mN k x y, 0)) (t' := 0) (by simp [bothV, bad2, ht, el]) (by simp [bothT, bad2, ht, el]) (rdo_plain k d A B C n g x y z r h1 h2 h12 h14 h15 h23 h24 _ rfl ht w)
    · exact rdo_ret (v' := (0, q)) (t' := 0) (by simp [bothV, bad2, hq, el, hd]) (by simp [bothT, bad2, hq, el, hd]) (rdo_plain_b k d A B C n g x y q z r h1 h2 h12 h14 h15 h23 h24 hq w)
  · exact rdo_ret (v' := (0, p)) (t' := 0) (by simp [bothV, bad2, hp, el, hd]) (by simp [bothT, bad2, hp, el, hd]) (rdo_plain_a k d A B C n g x p y q z r h1 h2 h12 h14 h15 h23 h24 hp w)

theorem rdo_is (k d a b c n g x p y q z r v1 v2 t : Int) (hk : known k = true) (hf : fm3 (x, p) (y, q) (z, r) = true) (hv : doV0 k n (x, p) (y, q) (z, r) = (v1, v2)) (ht : doT0 k (x, p) (y, q) = t) (w : World) :
    Calls Try.prog 16 #[.agg #[.int .i64 k, .int .i64 d, .int .i64 a, .int .i64 b, .int .i64 c, .int .i64 n, .int .i64 g], .agg #[.int .i64 x, .int .i64 p], .agg #[.int .i64 y, .int .i64 q], .agg #[.int .i64 z, .int .i64 r]] w
      fun e w' => e = .returned (.tuple #[.agg #[.int .i64 v1, .int .i64 v2], .int .i64 t]) ∧ Below w.heap.size w w' := by
  have h := rdo_any ⟨k, d, a, b, c, n, g⟩ (x, p) (y, q) (z, r) hk hf w
  rw [hv, ht] at h; exact h
end Go.Proofs.Ytlbfnmbodpfepaa
