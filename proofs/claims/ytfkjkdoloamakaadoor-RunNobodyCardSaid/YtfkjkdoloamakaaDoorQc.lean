/- What Copy of package code leaves: a unit of the same content in memory of its own. -/
import Derived.Test.YtfkjkdoloamakaaDoorQb
import Derived.Test.YtfkjkdoloamakaaDoorRu
namespace Go.Proofs.YtfkjkdoloamakaaDoor
open Go.RowKit
set_option linter.unusedVariables false
set_option linter.unusedSimpArgs false
variable {w : World} {U : UnS} {Av Ab : Option Addr} {cv cb : Nat} {F : Nat → Prop}

theorem row_read {v : Value} {n size : Nat} {xs : List Value} (h : Row F w v n size xs) : ∃ A c, v = .slice A n c ∧ (A = none → n = 0) ∧ ∀ ad, A = some ad → ∀ j u, xs[j]? = some u → w.cell? (ad.add j) = some u := by
  obtain ⟨h0, A, c, rfl, _, _, h1⟩ := h
  refine ⟨A, c, rfl, fun e => ?_, fun ad e j u hu => ?_⟩
  · rcases Nat.eq_zero_or_pos n with h | h
    · exact h
    · obtain ⟨g, o, e2, _⟩ := h1 h
      rw [e] at e2; cases e2
  · rcases Nat.eq_zero_or_pos n with h | h
    · subst h
      rw [Nat.zero_mul] at h0
      obtain rfl := List.eq_nil_of_length_eq_zero h0
      simp at hu
    · obtain ⟨g, o, e2, _, _, h2⟩ := h1 h
      rw [e] at e2
      injection e2 with e2
      subst e2
      rw [Addr.add_lit]
      exact h2 j u hu
theorem blsC_one : ∀ (vs : List Value) (bs : List BlkS), (∀ v ∈ vs, v.oneCell' = true) → ∀ u ∈ blsC vs bs, u.oneCell' = true
  | [], _, _, u, h => by simp [blsC] at h
  | _ :: _, [], _, u, h => by simp [blsC] at h
  | v :: vs, b :: r, hv, u, h => by
    simp only [blsC, edC, List.cons_append, List.nil_append, List.mem_cons] at h
    rcases h with rfl | rfl | rfl | rfl | rfl | rfl | h
    · exact hv _ List.mem_cons_self
    · rfl
    · rfl
    · rfl
    · rfl
    · rfl
    · exact blsC_one vs r (fun v h => hv v (List.mem_cons_of_mem _ h)) u h
theorem opsC_one : ∀ (l : List OpI), ∀ u ∈ opsC l, u.oneCell' = true
  | [], u, h => by simp [opsC] at h
  | o :: r, u, h => by
    simp only [opsC, opC, List.cons_append, List.nil_append, List.mem_cons] at h
    rcases h with rfl | rfl | rfl | rfl | rfl | rfl | rfl | h <;> first | rfl | exact opsC_one r u h
theorem clone_sizes (hs : Row F w (.slice Av U.sizes.length cv) U.sizes.length 1 (numV U.sizes)) (hz : U.sizes.length ≤ 16) {W : World} (hb : Below w.heap.size w W) :
    Calls Tryd.prog 66 #[.slice Av U.sizes.length cv] W fun e w' => ∃ A c, e = .returned (.slice A U.sizes.length c) ∧ w'.ownsRow W.heap.size 3 1 (.slice A U.sizes.length c) U.sizes.length (numV U.sizes) ∧ Below W.heap.size W w' := by
  obtain ⟨A, c, e, h0, h1⟩ := row_read (hs.fr (M := fun _ => False) (Fr.of_below hb) fun _ _ => not_false)
  injection e with e1 _ e2
  subst e1 e2
  refine (clone_int Av U.sizes.length cv (numV U.sizes) W h0 (by simp [numV]) (by unfold maxLen; omega) (by omega) h1 num_one).mono ?_
  rintro e w' ⟨v', rfl, h2, h3⟩
  obtain ⟨A, c, rfl, _⟩ := own_read h2
  exact ⟨A, c, rfl, h2, h3⟩
theorem clone_blocks {vs : List Value} {bs : List BlkS} {A : Option Addr} {c : Nat} (hl : vs.length = bs.length) (hs : Row F w (.slice A bs.length c) bs.length 6 (blsC vs bs)) (h1c : ∀ v ∈ vs, v.oneCell' = true) (hn : 0 < bs.length) (hz : bs.length ≤ 2000) {W : World} (hb : Below w.heap.size w W) :
    Calls Tryd.prog 113 #[.slice A bs.length c] W fun e w' => ∃ g c', e = .returned (.slice (some ⟨g, 0, none⟩) bs.length c') ∧ w'.ownsRow W.heap.size 73 6 (.slice (some ⟨g, 0, none⟩) bs.length c') bs.length (blsC vs bs) ∧ Below W.heap.size W w' := by
  obtain ⟨A', c', e, h0, h1⟩ := row_read (hs.fr (M := fun _ => False) (Fr.of_below hb) fun _ _ => not_false)
  injection e with e1 _ e2
  subst e1 e2
  refine (clone_blk A bs.length c (blsC vs bs) W h0 (blsC_length _ _ hl) (by unfold maxLen; omega) (by omega) h1 (blsC_one vs bs h1c)).mono ?_
  rintro e w' ⟨v', rfl, h2, h3⟩
  obtain ⟨g, c', rfl⟩ := own_form h2 hn
  exact ⟨g, c', rfl, h2, h3⟩
end Go.Proofs.YtfkjkdoloamakaaDoor
