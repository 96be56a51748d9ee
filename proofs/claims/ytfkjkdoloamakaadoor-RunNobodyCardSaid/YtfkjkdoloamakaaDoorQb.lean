/- What Copy of package code needs: a row of blocks of which some have been copied. -/
import Derived.Test.YtfkjkdoloamakaaDoorQa
namespace Go.Proofs.YtfkjkdoloamakaaDoor
open Go.RowKit
set_option linter.unusedVariables false
set_option linter.unusedSimpArgs false
variable {w : World} {F : Nat → Prop}

theorem blsC_set : ∀ (vs : List Value) (bs : List BlkS) (i : Nat) (v : Value) (_ : vs.length = bs.length) (_ : i < bs.length) (j : Nat), (blsC (vs.set i v) bs)[j]? = if j = i * 6 then some v else (blsC vs bs)[j]?
  | [], [], i, _, _, h, _ => absurd h (by simp)
  | [], _ :: _, _, _, h, _, _ => by simp at h
  | _ :: _, [], _, _, h, _, _ => by simp at h
  | x :: vs, b :: r, 0, v, _, _, j => by
    cases j with
    | zero => simp [blsC]
    | succ j => simp [blsC]
  | x :: vs, b :: r, i + 1, v, h, hi, j => by
    simp only [List.set_cons_succ, blsC]
    have hl : (x :: edC b.ed ++ [Value.int .i64 b.ct]).length = 6 := by simp [edC]
    revert hl
    generalize (x :: edC b.ed ++ [Value.int .i64 b.ct]) = L
    intro hl
    by_cases hj : j < 6
    · rw [List.getElem?_append_left (by rw [hl]; exact hj), if_neg (by omega), List.getElem?_append_left (by rw [hl]; exact hj)]
    · rw [List.getElem?_append_right (by rw [hl]; omega), List.getElem?_append_right (by rw [hl]; omega), hl, blsC_set vs r i v (by simpa using h) (by simpa using hi)]
      by_cases e : j = (i + 1) * 6
      · rw [if_pos e, if_pos (by omega)]
      · rw [if_neg e, if_neg (by omega)]
theorem cell_put {w : World} {g i : Nat} {u v : Value} (h : w.cell? ⟨g, i, none⟩ = some u) : (w.setCell ⟨g, i, none⟩ v).cell? ⟨g, i, none⟩ = some v := by
  simp [go_sem, h]
theorem cell_off {w : World} {g i j : Nat} {v : Value} (h : i ≠ j) : (w.setCell ⟨g, i, none⟩ v).cell? ⟨g, j, none⟩ = w.cell? ⟨g, j, none⟩ := by
  simp [go_sem, h]
theorem Row.of_own {base : Nat} {e : TypeId} {size n : Nat} {v : Value} {xs : List Value} {N : Nat → Prop} (h : w.ownsRow base e size v n xs) (hN : ∀ b, base ≤ b → N b) (hs : 0 < size) : Row N w v n size xs := by
  rcases h.2 with ⟨h0, h1⟩ | ⟨g, cap, cur, rfl, hg, hc, h2, h3, _⟩
  · exact ⟨h.1, none, 0, by rw [h0, h1], by omega, by unfold maxLen; omega, fun hp => by omega⟩
  · refine ⟨h.1, some ⟨g, 0, none⟩, cap, rfl, h2, h3, fun hp => ⟨g, 0, rfl, hN g hg, ?_, fun j u hu => ?_⟩⟩
    · rcases Nat.lt_or_ge g w.heap.size with h' | h'
      · exact h'
      · rw [Array.getElem?_eq_none h'] at hc; cases hc
    · rw [Nat.zero_add]
      have hj : j < xs.length := (List.getElem?_eq_some_iff.mp hu).1
      have := h.cellAt j (by rw [← h.1]; exact hj)
      rw [this, ← hu]
/-- some of the blocks have been copied -/
def Half (F N : Nat → Prop) (w : World) (g c k : Nat) (bs : List BlkS) : Prop :=
  ∃ vs : List Value, vs.length = bs.length ∧ Row (fun b => b = g) w (.slice (some ⟨g, 0, none⟩) bs.length c) bs.length 6 (blsC vs bs) ∧ ∀ i (h : i < bs.length), Row (fun b => if i < k then N b else F b) w (vs.getD i .nilFunc) (bs[i]).ops.length 7 (opsC (bs[i]).ops)
variable {N M : Nat → Prop} {w' : World} {g c k : Nat} {bs : List BlkS}
theorem Half.done (h : Half F N w g c bs.length bs) : RdBlocks (fun b => b = g ∨ N b) w (.slice (some ⟨g, 0, none⟩) bs.length c) bs := by
  obtain ⟨vs, h1, h2, h3⟩ := h
  exact ⟨vs, h1, h2.mono fun b hb _ => .inl hb, fun i hi => (h3 i hi).mono fun b hb _ => by rw [if_pos hi] at hb; exact .inr hb⟩
theorem Half.start {vs : List Value} (h1 : vs.length = bs.length) (h2 : Row (fun b => b = g) w (.slice (some ⟨g, 0, none⟩) bs.length c) bs.length 6 (blsC vs bs)) (h3 : ∀ i (h : i < bs.length), Row F w (vs.getD i .nilFunc) (bs[i]).ops.length 7 (opsC (bs[i]).ops)) : Half F N w g c 0 bs :=
  ⟨vs, h1, h2, fun i hi => (h3 i hi).mono fun b hb _ => by rw [if_neg (by omega)]; exact hb⟩
theorem Half.fr (h : Half F N w g c k bs) (hf : Fr M w w') (hF : ∀ b, F b → ¬ M b) (hN : ∀ b, N b → ¬ M b) (hg : ¬ M g) : Half F N w' g c k bs := by
  obtain ⟨vs, h1, h2, h3⟩ := h
  exact ⟨vs, h1, h2.fr hf (fun b hb => hb ▸ hg), fun i hi => (h3 i hi).fr hf fun b hb => by
    by_cases hik : i < k
    · rw [if_pos hik] at hb; exact hN b hb
    · rw [if_neg hik] at hb; exact hF b hb⟩
/-- the slice that is copied next -/
theorem Half.at_ (h : Half F N w g c k bs) (hk : k < bs.length) :
    ∃ v, w.cell? ⟨g, k * 6, none⟩ = some v ∧ Row F w v (bs[k]).ops.length 7 (opsC (bs[k]).ops) := by
  obtain ⟨vs, h1, ⟨_, A, c', e, _, _, hh⟩, h3⟩ := h
  obtain ⟨g1, o1, e1, _, _, hc⟩ := hh (by omega)
  rw [e1] at e
  injection e with e2
  injection e2 with e2
  injection e2 with e2 e3
  subst e2
  refine ⟨vs.getD k .nilFunc, ?_, (h3 k hk).mono fun b hb _ => by rw [if_neg (Nat.lt_irrefl _)] at hb; exact hb⟩
  have := hc (k * 6 + 0) _ ((blsC_at vs bs h1 k hk 0 (by omega)).trans rfl)
  rw [← e3] at this
  simpa using this
/-- one more is copied: its new slice is laid -/
theorem Half.next {v : Value} (h : Half F N w g c k bs) (hk : k < bs.length) (hv : Row N w v (bs[k]).ops.length 7 (opsC (bs[k]).ops)) (hN : ¬ N g) (hF : ¬ F g) : Half F N (w.setCell ⟨g, k * 6, none⟩ v) g c (k + 1) bs := by
  obtain ⟨vs, h1, ⟨h0, A, c', e, hc1, hc2, hh⟩, h3⟩ := h
  have hfr : Fr (fun b => b = g) w (w.setCell ⟨g, k * 6, none⟩ v) := Fr.one w g (k * 6) v
  obtain ⟨g1, o1, e1, eg, hlt, hc⟩ := hh (by omega)
  rw [e1] at e
  injection e with e2 _ e4
  injection e2 with e2
  injection e2 with e2 e3
  subst e2 e4
  subst e3
  refine ⟨vs.set k v, by simpa using h1, ⟨by rw [blsC_length _ _ (by simpa using h1)], _, _, rfl, hc1, hc2, fun _ => ⟨g, 0, rfl, rfl, by simpa using hlt, fun j u hu => ?_⟩⟩, fun i hi => ?_⟩
  · rw [blsC_set vs bs k v h1 hk j] at hu
    rw [Nat.zero_add]
    by_cases hj : j = k * 6
    · rw [if_pos hj] at hu
      subst hj
      have h6 := hc (k * 6 + 0) _ ((blsC_at vs bs h1 k hk 0 (by omega)).trans rfl)
      simp only [Nat.zero_add, Nat.add_zero] at h6
      rw [← hu]
      exact cell_put h6
    · rw [if_neg hj] at hu
      have h6 := hc j u hu
      rw [Nat.zero_add] at h6
      exact (cell_off (by omega)).trans h6
  · by_cases hik : i = k
    · subst hik
      rw [List.getD_eq_getElem?_getD, List.getElem?_set_self (by rw [h1]; exact hi), Option.getD_some]
      exact (hv.fr hfr fun b hb e => hN (e ▸ hb)).mono fun b hb _ => by rw [if_pos (Nat.lt_succ_self _)]; exact hb
    · rw [List.getD_eq_getElem?_getD, List.getElem?_set_ne (fun e => hik e.symm), ← List.getD_eq_getElem?_getD]
      refine ((h3 i hi).fr hfr fun b hb e => ?_).mono fun b hb _ => ?_
      · have e' : b = g := e
        subst e'
        by_cases h' : i < k
        · rw [if_pos h'] at hb; exact hN hb
        · rw [if_neg h'] at hb; exact hF hb
      · by_cases h' : i < k
        · rw [if_pos h'] at hb; rw [if_pos (by omega)]; exact hb
        · rw [if_neg h'] at hb; rw [if_neg (by omega)]; exact hb
end Go.Proofs.YtfkjkdoloamakaaDoor
