/- The specification's Outcomes says that two Outcomes of one content are the same. -/
import Derived.Test.YtfkjkdoloamakaaDoorNa
namespace Go.Proofs.YtfkjkdoloamakaaDoor
open Go.RowKit
set_option linter.unusedVariables false
set_option linter.unusedSimpArgs false
variable {w : World}

/-- a slice that reads as these numbers -/
def RdN (w : World) (v : Value) (l : List Int) : Prop := ∃ F, Row F w v l.length 1 (numV l)
theorem RdN.fr {M : Nat → Prop} {w' : World} {v : Value} {l : List Int} {F : Nat → Prop} (h : Row F w v l.length 1 (numV l)) (hf : Fr M w w') (hn : ∀ g, F g → ¬ M g) : RdN w' v l := ⟨F, h.fr hf hn⟩
theorem RdN.below {w' : World} {v : Value} {l : List Int} (h : RdN w v l) (hb : Below w.heap.size w w') : RdN w' v l := by
  obtain ⟨F, h⟩ := h
  exact ⟨F, h.fr (M := fun _ => False) (Fr.of_below hb) fun _ _ => not_false⟩
theorem RdN.nil (w : World) : RdN w (.slice none 0 0) [] := ⟨fun _ => False, rfl, none, 0, rfl, Nat.le_refl _, by unfold maxLen; omega, fun h => absurd h (by simp)⟩
theorem RdN.shape {v : Value} {l : List Int} (h : RdN w v l) : ∃ A c, v = .slice A l.length c ∧ ∀ j (hj : j < l.length), ∃ g o, A = some ⟨g, o, none⟩ ∧ w.cell? ⟨g, o + j, none⟩ = some (.int .i64 l[j]) := by
  obtain ⟨F, h0, A, c, e, hc, hm, hh⟩ := h
  refine ⟨A, c, e, fun j hj => ?_⟩
  obtain ⟨g, o, e2, _, _, h3⟩ := hh (by omega)
  exact ⟨g, o, e2, h3 j _ (by simp [numV, hj])⟩

set_option maxRecDepth 100000 in
set_option maxHeartbeats 1000000 in
theorem outs_true (k v : Int) (l : List Int) {v1 v2 : Value} (h1 : RdN w v1 l) (h2 : RdN w v2 l) (hl : l.length ≤ 10000000000000) :
    Calls Tryd.prog 15 #[.agg #[v1, .int .i64 k, .int .i64 v], .agg #[v2, .int .i64 k, .int .i64 v]] w fun e w' => e = .returned (.bool true) ∧ Below w.heap.size w w' := by
  obtain ⟨A1, c1, rfl, r1⟩ := h1.shape
  obtain ⟨A2, c2, rfl, r2⟩ := h2.shape
  have H1 := Lib.hid r1
  have H2 := Lib.hid r2
  clear h1 h2 r1 r2
  obtain ⟨W, hW⟩ : ∃ W, W = (w.alloc (.cells #[.slice A1 l.length c1, .int .i64 k, .int .i64 v] 30)).alloc (.cells #[.slice A2 l.length c2, .int .i64 k, .int .i64 v] 30) := ⟨_, rfl⟩
  have hb : Below w.heap.size w W := by rw [hW]; exact ((Below.refl _ _).alloc (Nat.le_refl _) _).alloc (by simp) _
  have z0 : W.cell? ⟨w.heap.size, 0, none⟩ = some (.slice A1 l.length c1) := by rw [hW]; simp [go_sem]
  have z1 : W.cell? ⟨w.heap.size + 1, 0, none⟩ = some (.slice A2 l.length c2) := by rw [hW]; simp [go_sem]
  have HW := Lib.hid hW
  have HB := Lib.hid hb
  clear hW hb
  go_enter Tryd.func15, Tryd.ntmps15
  go_wp2
  rw [← HW.out]
  go_loopw [5] (fun i wr => ∃ (k : Nat) (m : Nat), k ≤ l.length ∧ i = .int .i64 k ∧ wr = W.drewN m) (fun i _ => l.length - (intOf i).toNat)
  case atStart => exact ⟨0, 0, Nat.zero_le _, rfl, rfl⟩
  case round =>
    obtain ⟨j, m, hj, rfl, rfl⟩ := hrel
    by_cases hlt : j < l.length
    · obtain ⟨ga, oa, rfl, ra⟩ := H1.out j hlt
      obtain ⟨gb, ob, rfl, rb⟩ := H2.out j hlt
      have sa : W.cell? ⟨ga, oa + j, none⟩ = some (.int .i64 l[j]) := (HB.out.cell (p := ⟨ga, oa + j, none⟩) (World.block_lt_of_cell? w _ ra)).trans ra
      have sb : W.cell? ⟨gb, ob + j, none⟩ = some (.int .i64 l[j]) := (HB.out.cell (p := ⟨gb, ob + j, none⟩) (World.block_lt_of_cell? w _ rb)).trans rb
      clear ra rb
      go_wp2
      go_quiet (fail)
      go_wp2
      go_roundw
      case rel => exact ⟨j + 1, _, by omega, by go_num, rfl⟩
      case measure => simp [intOf]; omega
    · obtain rfl : j = l.length := by omega
      go_wp2
      go_ret
      exact ⟨rfl, ⟨HB.out.os, HB.out.tape, HB.out.output, HB.out.size, HB.out.block⟩⟩
end Go.Proofs.YtfkjkdoloamakaaDoor
