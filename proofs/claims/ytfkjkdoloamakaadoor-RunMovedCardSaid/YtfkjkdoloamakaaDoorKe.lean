/- What RunProfile's loop has summed up after so many blocks: pure. -/
import Derived.Test.YtfkjkdoloamakaaDoorKa
import Derived.Test.YtfkjkdoloamakaaDoorKb
namespace Go.Proofs.YtfkjkdoloamakaaDoor
open Go.RowKit
set_option linter.unusedVariables false
set_option linter.unusedSimpArgs false
variable {U : UnS} {s : St}

theorem infl_bd : ∀ (bs : List BlkS) (cs : List (Int × Int × Int)) (j : Int), (∀ c ∈ cs, 0 ≤ c.2.1 ∧ 0 ≤ c.2.2 ∧ c.2.1 + c.2.2 ≤ c.1) → 0 ≤ infl bs cs j ∧ infl bs cs j ≤ sE cs
  | b :: bs, c :: cs, j, h => by
    have h1 := infl_bd bs cs j fun c hc => h c (List.mem_cons_of_mem _ hc)
    have h2 := h c (List.mem_cons_self ..)
    simp only [infl, sE]
    unfold ctb
    split <;> split <;> omega
  | [], [], _, _ => by simp [infl, sE]
  | b :: bs, [], _, _ => by simp [infl, sE]
  | [], c :: cs, j, h => by
    have h1 := infl_bd [] cs j fun c hc => h c (List.mem_cons_of_mem _ hc)
    have h2 := h c (List.mem_cons_self ..)
    have e : infl [] cs j = 0 := by cases cs <;> rfl
    rw [e] at h1
    simp only [infl, sE]
    omega
theorem sE_take_le : ∀ (l : List (Int × Int × Int)) (k : Nat), (∀ c ∈ l, 0 ≤ c.1) → sE (l.take k) ≤ sE l ∧ 0 ≤ sE (l.take k)
  | [], k, _ => by simp [sE]
  | c :: r, 0, h => by
    have h1 := sE_take_le r 0 fun c hc => h c (List.mem_cons_of_mem _ hc)
    have h2 := h c (List.mem_cons_self ..)
    simp only [List.take_zero, sE] at h1 ⊢
    omega
  | c :: r, k + 1, h => by
    have h1 := sE_take_le r k fun c hc => h c (List.mem_cons_of_mem _ hc)
    have h2 := h c (List.mem_cons_self ..)
    simp only [List.take_succ_cons, sE]
    omega
theorem sE_take_succ : ∀ (l : List (Int × Int × Int)) (k : Nat), k < l.length → sE (l.take (k + 1)) = sE (l.take k) + (l.getD k c0).1
  | c :: r, 0, _ => by simp [sE]
  | c :: r, k + 1, h => by
    have := sE_take_succ r k (by simpa using h)
    rw [List.take_succ_cons, List.take_succ_cons, List.getD_cons_succ]
    simp only [sE]
    omega
theorem infl_take_succ (j : Int) : ∀ (bs : List BlkS) (cs : List (Int × Int × Int)) (k : Nat), k < bs.length → k < cs.length → infl (bs.take (k + 1)) (cs.take (k + 1)) j = infl (bs.take k) (cs.take k) j + ctb (bs.getD k dBl) (cs.getD k c0) j
  | b :: bs, c :: cs, 0, _, _ => by simp [infl]
  | b :: bs, c :: cs, k + 1, h1, h2 => by
    have := infl_take_succ j bs cs k (by simpa using h1) (by simpa using h2)
    simp only [List.take_succ_cons, List.getD_cons_succ, infl]
    omega
  | [], _, _, h, _ => by simp at h
  | _ :: _, [], _, _, h => by simp at h
theorem getD_of_mem {l : List (Int × Int × Int)} {c : Int × Int × Int} (h : c ∈ l) : ∃ i, c = l.getD i c0 := by
  obtain ⟨i, hi, rfl⟩ := List.getElem_of_mem h
  exact ⟨i, by rw [List.getD_eq_getElem?_getD, List.getElem?_eq_getElem hi]; rfl⟩
theorem Prof.tri (P : Prof U s) (i : Nat) : 0 ≤ (s.seen.getD i c0).2.1 ∧ 0 ≤ (s.seen.getD i c0).2.2 ∧ (s.seen.getD i c0).2.1 + (s.seen.getD i c0).2.2 ≤ (s.seen.getD i c0).1 ∧ (s.seen.getD i c0).1 ≤ s.steps + 1 := by
  have h1 := P.nn i
  have nn1 : ∀ i, 0 ≤ (s.seen.getD i c0).1 := fun i => by have := P.le i; have := P.nn i; split at * <;> omega
  have h2 := P.le i
  have h3 := sE_ge s.seen i nn1
  have h4 := P.sum
  split at h2 <;> exact ⟨h1.1, h1.2, by omega, by omega⟩
theorem Prof.tris (P : Prof U s) : ∀ c ∈ s.seen, 0 ≤ c.2.1 ∧ 0 ≤ c.2.2 ∧ c.2.1 + c.2.2 ≤ c.1 := fun c hc => by
  obtain ⟨i, rfl⟩ := getD_of_mem hc
  have := P.tri i
  exact ⟨this.1, this.2.1, this.2.2.1⟩
theorem take_mem {α : Type} {l : List α} {k : Nat} {x : α} (h : x ∈ l.take k) : x ∈ l := List.mem_of_mem_take h

/-- what the loop has summed up after k blocks -/
structure Sums (U : UnS) (cs : List (Int × Int × Int)) (k : Nat) (W : List Int) (all : Int) : Prop where
  wl : W.length = U.blocks.length
  wv : ∀ j : Nat, W.getD j 0 = (if j = 0 then 1 else 0) + infl (U.blocks.take k) (cs.take k) j
  al : all = sE (cs.take k)
theorem Sums.zero (G : UnGood U) (cs : List (Int × Int × Int)) : Sums U cs 0 ((List.replicate U.blocks.length 0).set 0 1) 0 := by
  have h0 := G.nb
  refine ⟨by simp, fun j => ?_, by simp [sE]⟩
  rw [getD_setI _ _ _ _ (by simpa using h0)]
  simp only [List.take_zero, infl]
  by_cases h : j = 0
  · rw [if_pos h, if_pos h]; rfl
  · rw [if_neg h, if_neg h, List.getD_eq_getElem?_getD, List.getElem?_replicate]
    split <;> rfl
theorem Sums.step {k : Nat} {W : List Int} {all : Int} (h : Sums U s.seen k W all) (G : UnGood U) (P : Prof U s) (hk : k < U.blocks.length) : Sums U s.seen (k + 1) (want1 (U.blocks.getD k dBl) (s.seen.getD k c0) W) (all + (s.seen.getD k c0).1) := by
  have he := (G.bls _ (blk_mem hk)).ed
  have hl := P.len
  refine ⟨by rw [want1_length]; exact h.wl, fun j => ?_, by rw [sE_take_succ _ _ (by omega), h.al]⟩
  rw [want1_at _ _ _ (by rw [h.wl]; exact he.t) (by rw [h.wl]; exact he.l), h.wv, infl_take_succ _ _ _ _ hk (by omega)]
  omega
theorem Sums.bd {k : Nat} {W : List Int} {all : Int} (h : Sums U s.seen k W all) (P : Prof U s) : (0 ≤ all ∧ all ≤ s.steps + 1) ∧ ∀ j : Nat, 0 ≤ W.getD j 0 ∧ W.getD j 0 ≤ s.steps + 2 := by
  have h1 := sE_take_le s.seen k fun c hc => by have := P.tris c hc; omega
  have h4 := P.sum
  refine ⟨by rw [h.al]; omega, fun j => ?_⟩
  have h2 := infl_bd (U.blocks.take k) (s.seen.take k) j fun c hc => P.tris c (take_mem hc)
  rw [h.wv]
  split <;> omega
theorem Sums.done {W : List Int} {all : Int} (h : Sums U s.seen U.blocks.length W all) (P : Prof U s) : (s.ways.length : Int) = min all 20000 ∧ (plainU U → ∀ j, j < U.blocks.length → (s.seen.getD j c0).1 = W.getD j 0) := by
  have e1 : s.seen.take U.blocks.length = s.seen := List.take_of_length_le (by rw [P.len]; exact Nat.le_refl _)
  have e2 : U.blocks.take U.blocks.length = U.blocks := List.take_of_length_le (Nat.le_refl _)
  refine ⟨by rw [h.al, e1]; exact P.ways, fun hp j hj => ?_⟩
  rw [h.wv, e1, e2]
  exact P.flow hp j hj

/-- no Exit and no Catch in the first k blocks -/
def plainB (b : BlkS) : Bool := decide (b.ct < 0) && b.ops.all fun o => decide (o.k ≠ 21)
def plainK (bs : List BlkS) (k : Nat) : Bool := (bs.take k).all plainB
theorem plainK_succ (bs : List BlkS) (k : Nat) (hk : k < bs.length) : plainK bs (k + 1) = (plainK bs k && plainB (bs.getD k dBl)) := by
  unfold plainK
  rw [List.take_add_one, List.all_append, List.getElem?_eq_getElem hk, List.getD_eq_getElem?_getD, List.getElem?_eq_getElem hk]
  simp
theorem plainK_all (h : plainK U.blocks U.blocks.length = true) : plainU U := by
  unfold plainK at h
  rw [List.take_of_length_le (Nat.le_refl _)] at h
  intro b hb
  have := List.all_eq_true.1 h b hb
  unfold plainB at this
  simp only [Bool.and_eq_true, decide_eq_true_eq, List.all_eq_true] at this
  exact this
/-- .. in the first m operations of a block -/
def plainO (b : BlkS) (m : Nat) : Bool := (b.ops.take m).all fun o => decide (o.k ≠ 21)
theorem plainO_succ (b : BlkS) (m : Nat) (hm : m < b.ops.length) : plainO b (m + 1) = (plainO b m && decide ((b.ops.getD m dOp).k ≠ 21)) := by
  unfold plainO
  rw [List.take_add_one, List.all_append, List.getElem?_eq_getElem hm, List.getD_eq_getElem?_getD, List.getElem?_eq_getElem hm]
  simp
theorem plainO_zero (b : BlkS) : plainO b 0 = true := rfl
theorem plainO_all (b : BlkS) : (decide (b.ct < 0) && plainO b b.ops.length) = plainB b := by
  unfold plainO plainB
  rw [List.take_of_length_le (Nat.le_refl _)]
end Go.Proofs.YtfkjkdoloamakaaDoor
