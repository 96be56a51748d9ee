/- What the counts of a run keep: the pure law of RunProfile. -/
import Derived.Test.YtfkjkdoloamakaaDoorMb
namespace Go.Proofs.YtfkjkdoloamakaaDoor
open Go.RowKit
set_option linter.unusedVariables false
set_option linter.unusedSimpArgs false
variable {U : UnS} {s : St}

def c0 : Int × Int × Int := (0, 0, 0)
def sE : List (Int × Int × Int) → Int
  | [] => 0
  | c :: r => c.1 + sE r
def ctb (b : BlkS) (c : Int × Int × Int) (j : Int) : Int := (if (b.ed.k = 1 ∨ b.ed.k = 2) ∧ b.ed.t = j then c.2.1 else 0) + (if b.ed.k = 2 ∧ b.ed.l = j then c.2.2 else 0)
def infl : List BlkS → List (Int × Int × Int) → Int → Int
  | b :: bs, c :: cs, j => ctb b c j + infl bs cs j
  | _, _, _ => 0
theorem modify_set (f : Int × Int × Int → Int × Int × Int) : ∀ (l : List (Int × Int × Int)) (i : Nat), i < l.length → l.modify i f = l.set i (f (l.getD i c0))
  | c :: r, 0, _ => by simp
  | c :: r, i + 1, h => by
    simp only [List.modify_succ_cons, List.set_cons_succ, List.getD_cons_succ]
    rw [modify_set f r i (by simpa using h)]
theorem getD_set (v : Int × Int × Int) : ∀ (l : List (Int × Int × Int)) (i k : Nat), i < l.length → (l.set i v).getD k c0 = if k = i then v else l.getD k c0
  | c :: r, 0, 0, _ => by simp
  | c :: r, 0, k + 1, _ => by simp
  | c :: r, i + 1, 0, _ => by simp
  | c :: r, i + 1, k + 1, h => by
    simp only [List.set_cons_succ, List.getD_cons_succ, Nat.add_right_cancel_iff]
    exact getD_set v r i k (by simpa using h)
theorem sE_set (v : Int × Int × Int) : ∀ (l : List (Int × Int × Int)) (i : Nat), i < l.length → sE (l.set i v) = sE l - (l.getD i c0).1 + v.1
  | c :: r, 0, _ => by simp [sE]; omega
  | c :: r, i + 1, h => by
    simp only [List.set_cons_succ, List.getD_cons_succ, sE]
    rw [sE_set v r i (by simpa using h)]; omega
theorem sE_nn : ∀ (l : List (Int × Int × Int)), (∀ i, 0 ≤ (l.getD i c0).1) → 0 ≤ sE l
  | [], _ => by simp [sE]
  | c :: r, h => by
    have h0 := h 0
    have := sE_nn r fun i => by have := h (i + 1); simpa using this
    simp only [List.getD_cons_zero] at h0
    simp only [sE]; omega
theorem sE_ge : ∀ (l : List (Int × Int × Int)) (k : Nat), (∀ i, 0 ≤ (l.getD i c0).1) → (l.getD k c0).1 ≤ sE l
  | [], k, _ => by simp [sE, c0]
  | c :: r, 0, h => by
    have := sE_nn r fun i => by have := h (i + 1); simpa using this
    simp only [List.getD_cons_zero, sE]; omega
  | c :: r, k + 1, h => by
    have h0 := h 0
    have := sE_ge r k fun i => by have := h (i + 1); simpa using this
    simp only [List.getD_cons_zero] at h0
    simp only [List.getD_cons_succ, sE]; omega
theorem infl_set (v : Int × Int × Int) (j : Int) : ∀ (bs : List BlkS) (cs : List (Int × Int × Int)) (i : Nat), i < cs.length → i < bs.length → infl bs (cs.set i v) j = infl bs cs j - ctb (bs.getD i dBl) (cs.getD i c0) j + ctb (bs.getD i dBl) v j
  | b :: bs, c :: cs, 0, _, _ => by simp [infl]; omega
  | b :: bs, c :: cs, i + 1, h1, h2 => by
    simp only [List.set_cons_succ, List.getD_cons_succ, infl]
    rw [infl_set v j bs cs i (by simpa using h1) (by simpa using h2)]; omega
  | [], _, _, _, h => by simp at h
  | _, [], _, h, _ => by simp at h

def plainU (U : UnS) : Prop := ∀ b ∈ U.blocks, b.ct < 0 ∧ ∀ o ∈ b.ops, o.k ≠ 21
/-- the counts of a run -/
structure Prof (U : UnS) (s : St) : Prop where
  len : s.seen.length = U.blocks.length
  nn : ∀ i, 0 ≤ (s.seen.getD i c0).2.1 ∧ 0 ≤ (s.seen.getD i c0).2.2
  le : ∀ i, (s.seen.getD i c0).2.1 + (s.seen.getD i c0).2.2 + (if i = s.bl then 1 else 0) ≤ (s.seen.getD i c0).1
  sum : sE s.seen ≤ s.steps + 1
  ways : (s.ways.length : Int) = min (sE s.seen) 20000
  head : s.ways[0]? = some 0
  to0 : ∀ i, ¬ ((U.blocks.getD i dBl).ed.k = 1 ∨ (U.blocks.getD i dBl).ed.k = 2) → (s.seen.getD i c0).2.1 = 0
  el0 : ∀ i, ¬ (U.blocks.getD i dBl).ed.k = 2 → (s.seen.getD i c0).2.2 = 0
  flow : plainU U → ∀ j : Nat, j < U.blocks.length → (s.seen.getD j c0).1 = (if j = 0 then 1 else 0) + infl U.blocks s.seen j
/-- .. before a block is entered -/
structure Prof0 (U : UnS) (s : St) (b : Nat) : Prop where
  len : s.seen.length = U.blocks.length
  nn : ∀ i, 0 ≤ (s.seen.getD i c0).2.1 ∧ 0 ≤ (s.seen.getD i c0).2.2
  le : ∀ i, (s.seen.getD i c0).2.1 + (s.seen.getD i c0).2.2 ≤ (s.seen.getD i c0).1
  sum : sE s.seen ≤ s.steps
  ways : (s.ways.length : Int) = min (sE s.seen) 20000
  head : (s.ways = [] ∧ b = 0) ∨ s.ways[0]? = some 0
  to0 : ∀ i, ¬ ((U.blocks.getD i dBl).ed.k = 1 ∨ (U.blocks.getD i dBl).ed.k = 2) → (s.seen.getD i c0).2.1 = 0
  el0 : ∀ i, ¬ (U.blocks.getD i dBl).ed.k = 2 → (s.seen.getD i c0).2.2 = 0
  flow : plainU U → ∀ j : Nat, j < U.blocks.length → (s.seen.getD j c0).1 = (if j = 0 then 1 else 0) + infl U.blocks s.seen j - (if j = b then 1 else 0)
theorem ctb_enter (b : BlkS) (c : Int × Int × Int) (x j : Int) : ctb b (x, c.2) j = ctb b c j := rfl
theorem Prof0.enter {b : Nat} (h : Prof0 U s b) (hb : b < U.blocks.length) (hs : s.steps ≤ 1000000000000) : Prof U (s.enter b) := by
  have hbl : b < s.seen.length := by rw [h.len]; exact hb
  have nn1 : ∀ i, 0 ≤ (s.seen.getD i c0).1 := fun i => by have := h.le i; have := h.nn i; omega
  have hge := sE_ge s.seen b nn1
  have hsum := h.sum
  have h1 := nn1 b
  have hw : wrap64 ((s.seen.getD b c0).1 + 1) = (s.seen.getD b c0).1 + 1 := by unfold wrap64; omega
  have e : (s.enter b).seen = s.seen.set b ((s.seen.getD b c0).1 + 1, (s.seen.getD b c0).2) := by
    show s.seen.modify b _ = _
    rw [modify_set _ _ _ hbl, hw]
  have es : sE (s.enter b).seen = sE s.seen + 1 := by rw [e, sE_set _ _ _ hbl]; omega
  have ew : (s.enter b).ways = if s.ways.length < 20000 then s.ways ++ [(b : Int)] else s.ways := rfl
  have hwy := h.ways
  have at_ : ∀ i, (s.enter b).seen.getD i c0 = if i = b then ((s.seen.getD b c0).1 + 1, (s.seen.getD b c0).2) else s.seen.getD i c0 := fun i => by rw [e, getD_set _ _ _ _ hbl]
  have at2 : ∀ i, ((s.enter b).seen.getD i c0).2 = (s.seen.getD i c0).2 := fun i => by
    rw [at_]; split
    · rename_i hi; rw [hi]
    · rfl
  have at1 : ∀ i, ((s.enter b).seen.getD i c0).1 = (s.seen.getD i c0).1 + (if i = b then 1 else 0) := fun i => by
    rw [at_]; split
    · rename_i hi; rw [hi]
    · omega
  refine ⟨by rw [e, List.length_set]; exact h.len, fun i => by rw [at2]; exact h.nn i, fun i => ?_, ?_, ?_, ?_, fun i hk => by rw [at2]; exact h.to0 i hk, fun i hk => by rw [at2]; exact h.el0 i hk, fun hp j hj => ?_⟩
  · rw [at2, at1]
    have := h.le i
    show _ + _ + (if i = b then (1 : Int) else 0) ≤ _
    omega
  · rw [es]; show _ ≤ s.steps + 1; omega
  · rw [es, ew]
    split
    · simp only [List.length_append, List.length_singleton]; omega
    · omega
  · rw [ew]
    rcases h.head with ⟨h1, h2⟩ | h1
    · rw [h1, h2]; rfl
    · split
      · rw [List.getElem?_append_left (by rcases Nat.lt_or_ge 0 s.ways.length with h | h; exact h; rw [List.getElem?_eq_none h] at h1; cases h1)]; exact h1
      · exact h1
  · have hc := ctb_enter (U.blocks.getD b dBl) (s.seen.getD b c0) ((s.seen.getD b c0).1 + 1) j
    have hf := h.flow hp j hj
    rw [at1, e, infl_set _ _ _ _ _ hbl hb]
    omega
theorem Prof.leave0 (h : Prof U s) (hp : ¬ plainU U) (b : Nat) (hs : sE s.seen ≤ s.steps) : Prof0 U s b :=
  ⟨h.len, h.nn, fun i => by have := h.le i; split at this <;> omega, hs, h.ways, .inr h.head, h.to0, h.el0, fun hq => absurd hq hp⟩
/-- a block is left by its end -/
theorem Prof.leaveT (h : Prof U s) (hbl : s.bl < U.blocks.length) (hs : sE s.seen ≤ s.steps) (hs2 : s.steps ≤ 1000000000000) (hk : (U.blocks.getD s.bl dBl).ed.k = 1 ∨ (U.blocks.getD s.bl dBl).ed.k = 2) (h0 : 0 ≤ (U.blocks.getD s.bl dBl).ed.t)
    {s' : St} (e1 : s'.seen = s.seen.modify s.bl (fun y => (y.1, wrap64 (y.2.1 + 1), y.2.2))) (e2 : s'.ways = s.ways) (e3 : s'.steps = s.steps) : Prof0 U s' (U.blocks.getD s.bl dBl).ed.t.toNat := by
  have hl : s.bl < s.seen.length := by rw [h.len]; exact hbl
  have nn1 : ∀ i, 0 ≤ (s.seen.getD i c0).1 := fun i => by have := h.le i; have := h.nn i; split at * <;> omega
  have hge := sE_ge s.seen s.bl nn1
  have hle := h.le s.bl
  rw [if_pos rfl] at hle
  have hnn := h.nn s.bl
  have hw : wrap64 ((s.seen.getD s.bl c0).2.1 + 1) = (s.seen.getD s.bl c0).2.1 + 1 := by unfold wrap64; omega
  rw [modify_set _ _ _ hl, hw] at e1
  have at_ : ∀ i, s'.seen.getD i c0 = if i = s.bl then ((s.seen.getD s.bl c0).1, (s.seen.getD s.bl c0).2.1 + 1, (s.seen.getD s.bl c0).2.2) else s.seen.getD i c0 := fun i => by rw [e1, getD_set _ _ _ _ hl]
  have es : sE s'.seen = sE s.seen := by rw [e1, sE_set _ _ _ hl]; omega
  refine ⟨by rw [e1, List.length_set]; exact h.len, fun i => ?_, fun i => ?_, by rw [es, e3]; exact hs, by rw [es, e2]; exact h.ways, .inr (by rw [e2]; exact h.head), fun i hn => ?_, fun i hn => ?_, fun hp j hj => ?_⟩
  · rw [at_]; split
    · exact ⟨by show 0 ≤ _ + 1; omega, hnn.2⟩
    · exact h.nn i
  · rw [at_]; split
    · show (s.seen.getD s.bl c0).2.1 + 1 + (s.seen.getD s.bl c0).2.2 ≤ (s.seen.getD s.bl c0).1; omega
    · rename_i hi
      have := h.le i
      rw [if_neg hi] at this
      omega
  · rw [at_]; split
    · rename_i hi; rw [hi] at hn; exact absurd hk hn
    · exact h.to0 i hn
  · rw [at_]; split
    · rename_i hi; rw [hi] at hn; exact h.el0 s.bl hn
    · exact h.el0 i hn
  · have hf := h.flow hp j hj
    have e4 : (s'.seen.getD j c0).1 = (s.seen.getD j c0).1 := by
      rw [at_]; split
      · rename_i hi; rw [hi]
      · rfl
    rw [e4, hf, e1, infl_set _ _ _ _ _ hl hbl]
    have e5 : ctb (U.blocks.getD s.bl dBl) ((s.seen.getD s.bl c0).1, (s.seen.getD s.bl c0).2.1 + 1, (s.seen.getD s.bl c0).2.2) j = ctb (U.blocks.getD s.bl dBl) (s.seen.getD s.bl c0) j + (if j = (U.blocks.getD s.bl dBl).ed.t.toNat then 1 else 0) := by
      unfold ctb
      by_cases hj : (U.blocks.getD s.bl dBl).ed.t = (j : Int)
      · have q : ((U.blocks.getD s.bl dBl).ed.k = 1 ∨ (U.blocks.getD s.bl dBl).ed.k = 2) ∧ (U.blocks.getD s.bl dBl).ed.t = (j : Int) := ⟨hk, hj⟩
        have q2 : j = (U.blocks.getD s.bl dBl).ed.t.toNat := by omega
        rw [if_pos q, if_pos q, if_pos q2]
        simp only
        omega
      · have q : ¬ (((U.blocks.getD s.bl dBl).ed.k = 1 ∨ (U.blocks.getD s.bl dBl).ed.k = 2) ∧ (U.blocks.getD s.bl dBl).ed.t = (j : Int)) := fun h => hj h.2
        have q2 : ¬ j = (U.blocks.getD s.bl dBl).ed.t.toNat := by omega
        rw [if_neg q, if_neg q, if_neg q2]
        simp only
        omega
    rw [e5]
    omega
theorem Prof.leaveE (h : Prof U s) (hbl : s.bl < U.blocks.length) (hs : sE s.seen ≤ s.steps) (hs2 : s.steps ≤ 1000000000000) (hk : (U.blocks.getD s.bl dBl).ed.k = 2) (h0 : 0 ≤ (U.blocks.getD s.bl dBl).ed.l)
    {s' : St} (e1 : s'.seen = s.seen.modify s.bl (fun y => (y.1, y.2.1, wrap64 (y.2.2 + 1)))) (e2 : s'.ways = s.ways) (e3 : s'.steps = s.steps) : Prof0 U s' (U.blocks.getD s.bl dBl).ed.l.toNat := by
  have hl : s.bl < s.seen.length := by rw [h.len]; exact hbl
  have nn1 : ∀ i, 0 ≤ (s.seen.getD i c0).1 := fun i => by have := h.le i; have := h.nn i; split at * <;> omega
  have hge := sE_ge s.seen s.bl nn1
  have hle := h.le s.bl
  rw [if_pos rfl] at hle
  have hnn := h.nn s.bl
  have hw : wrap64 ((s.seen.getD s.bl c0).2.2 + 1) = (s.seen.getD s.bl c0).2.2 + 1 := by unfold wrap64; omega
  rw [modify_set _ _ _ hl, hw] at e1
  have at_ : ∀ i, s'.seen.getD i c0 = if i = s.bl then ((s.seen.getD s.bl c0).1, (s.seen.getD s.bl c0).2.1, (s.seen.getD s.bl c0).2.2 + 1) else s.seen.getD i c0 := fun i => by rw [e1, getD_set _ _ _ _ hl]
  have es : sE s'.seen = sE s.seen := by rw [e1, sE_set _ _ _ hl]; omega
  refine ⟨by rw [e1, List.length_set]; exact h.len, fun i => ?_, fun i => ?_, by rw [es, e3]; exact hs, by rw [es, e2]; exact h.ways, .inr (by rw [e2]; exact h.head), fun i hn => ?_, fun i hn => ?_, fun hp j hj => ?_⟩
  · rw [at_]; split
    · exact ⟨hnn.1, by show 0 ≤ _ + 1; omega⟩
    · exact h.nn i
  · rw [at_]; split
    · show (s.seen.getD s.bl c0).2.1 + ((s.seen.getD s.bl c0).2.2 + 1) ≤ (s.seen.getD s.bl c0).1; omega
    · rename_i hi
      have := h.le i
      rw [if_neg hi] at this
      omega
  · rw [at_]; split
    · rename_i hi; rw [hi] at hn; exact absurd (.inr hk) hn
    · exact h.to0 i hn
  · rw [at_]; split
    · rename_i hi; rw [hi] at hn; exact absurd hk hn
    · exact h.el0 i hn
  · have hf := h.flow hp j hj
    have e4 : (s'.seen.getD j c0).1 = (s.seen.getD j c0).1 := by
      rw [at_]; split
      · rename_i hi; rw [hi]
      · rfl
    rw [e4, hf, e1, infl_set _ _ _ _ _ hl hbl]
    have e5 : ctb (U.blocks.getD s.bl dBl) ((s.seen.getD s.bl c0).1, (s.seen.getD s.bl c0).2.1, (s.seen.getD s.bl c0).2.2 + 1) j = ctb (U.blocks.getD s.bl dBl) (s.seen.getD s.bl c0) j + (if j = (U.blocks.getD s.bl dBl).ed.l.toNat then 1 else 0) := by
      unfold ctb
      by_cases hj : (U.blocks.getD s.bl dBl).ed.l = (j : Int)
      · have q : (U.blocks.getD s.bl dBl).ed.k = 2 ∧ (U.blocks.getD s.bl dBl).ed.l = (j : Int) := ⟨hk, hj⟩
        have q2 : j = (U.blocks.getD s.bl dBl).ed.l.toNat := by omega
        rw [if_pos q, if_pos q, if_pos q2]
        simp only
        omega
      · have q : ¬ ((U.blocks.getD s.bl dBl).ed.k = 2 ∧ (U.blocks.getD s.bl dBl).ed.l = (j : Int)) := fun h => hj h.2
        have q2 : ¬ j = (U.blocks.getD s.bl dBl).ed.l.toNat := by omega
        rw [if_neg q, if_neg q, if_neg q2]
        simp only
        omega
    rw [e5]
    omega

theorem Prof.same (h : Prof U s) {s' : St} (e1 : s'.seen = s.seen) (e2 : s'.ways = s.ways) (e3 : s'.bl = s.bl) (e4 : s.steps ≤ s'.steps) : Prof U s' := by
  refine ⟨by rw [e1]; exact h.len, ?_, ?_, ?_, ?_, by rw [e2]; exact h.head, ?_, ?_, ?_⟩
  · rw [e1]; exact h.nn
  · rw [e1, e3]; exact h.le
  · rw [e1]; have := h.sum; omega
  · rw [e1, e2]; exact h.ways
  · rw [e1]; exact h.to0
  · rw [e1]; exact h.el0
  · rw [e1]; exact h.flow
theorem blk_mem {n : Nat} (h : n < U.blocks.length) : U.blocks.getD n dBl ∈ U.blocks := by
  rw [List.getD_eq_getElem?_getD, List.getElem?_eq_getElem h]; exact List.getElem_mem h
theorem Prof.trap (h : Prof U s) (G : UnGood U) (hbl : s.bl < U.blocks.length) (hs : sE s.seen ≤ s.steps) (hs2 : s.steps ≤ 1000000000000) (n : Int) : Prof U (s.trap U n) := by
  unfold St.trap
  split
  · exact h.same rfl rfl rfl (Int.le_refl _)
  · rename_i hct
    have hg := (G.bls _ (blk_mem hbl)).ct
    have hr : inR (U.blocks.getD s.bl dBl).ct U.blocks.length := hg.elim (fun e => by omega) id
    obtain ⟨r1, r2⟩ := hr
    have h1 : Prof U (s.put U.code (n, 0)) := h.same rfl rfl rfl (Int.le_refl _)
    exact (h1.leave0 (fun hp => hct (hp _ (blk_mem hbl)).1) _ hs).enter (by omega) hs2
theorem Prof.leave (h : Prof U s) (G : UnGood U) (hbl : s.bl < U.blocks.length) (hs : sE s.seen ≤ s.steps) (hs2 : s.steps ≤ 1000000000000) : Prof U (s.leave U (U.blocks.getD s.bl dBl).ed) := by
  have he := (G.bls _ (blk_mem hbl)).ed
  have k1 := he.k1
  have k2 := he.k2
  unfold St.leave
  split
  · exact h.trap G hbl hs hs2 _
  · split
    · exact h.trap G hbl hs hs2 _
    · split
      · exact h.same rfl rfl rfl (Int.le_refl _)
      · rename_i h4 h3
        have h12 : (U.blocks.getD s.bl dBl).ed.k = 1 ∨ (U.blocks.getD s.bl dBl).ed.k = 2 := by omega
        split
        · obtain ⟨r1, r2⟩ := he.t h12
          exact (h.leaveT (s' := { s with seen := s.seen.modify s.bl (fun y => (y.1, wrap64 (y.2.1 + 1), y.2.2)) }) hbl hs hs2 h12 r1 rfl rfl rfl).enter (by omega) hs2
        · rename_i h5
          have hk2 : (U.blocks.getD s.bl dBl).ed.k = 2 := h12.elim (fun e => absurd (.inl e) h5) id
          obtain ⟨r1, r2⟩ := he.l hk2
          exact (h.leaveE (s' := { s with seen := s.seen.modify s.bl (fun y => (y.1, y.2.1, wrap64 (y.2.2 + 1))) }) hbl hs hs2 hk2 r1 rfl rfl rfl).enter (by omega) hs2
theorem St.act_counts (s : St) (o : OpI) : ((s.act o).1.seen = s.seen ∧ (s.act o).1.ways = s.ways ∧ (s.act o).1.bl = s.bl ∧ (s.act o).1.steps = s.steps) ∨ (o.k = 21 ∧ (s.act o).1 = s.enter o.n.toNat ∧ (s.act o).2.1 = 0) := by
  unfold St.act
  repeat' split
  all_goals first | exact .inl ⟨rfl, rfl, rfl, rfl⟩ | (rename_i h; exact .inr ⟨h.1, rfl, rfl⟩)
theorem St.doR_counts (s : St) (o : OpI) : ((s.doR o).1.seen = s.seen ∧ (s.doR o).1.ways = s.ways ∧ (s.doR o).1.bl = s.bl ∧ (s.doR o).1.steps = s.steps) ∨ (o.k = 21 ∧ (s.doR o).1 = s.enter o.n.toNat ∧ (s.doR o).2.1 = 0) := by
  unfold St.doR
  repeat' split
  all_goals first | exact .inl ⟨rfl, rfl, rfl, rfl⟩ | exact St.act_counts s o
theorem Prof.step (h : Prof U s) (G : UnGood U) (hbl : s.bl < U.blocks.length) (hpc : s.pc ≤ (U.blocks.getD s.bl dBl).ops.length) (hs2 : s.steps < 1000000000000) : Prof U (s.step U) := by
  have h1 : Prof U { s with steps := s.steps + 1 } := h.same rfl rfl rfl (by show s.steps ≤ s.steps + 1; omega)
  have hs : sE s.seen ≤ s.steps + 1 := h.sum
  unfold St.step
  simp only
  split
  · exact Prof.leave (s := { s with steps := s.steps + 1 }) h1 G hbl hs (by show s.steps + 1 ≤ _; omega)
  · rename_i hne
    have hlt : s.pc < (U.blocks.getD s.bl dBl).ops.length := by omega
    have hmem : (U.blocks.getD s.bl dBl).ops.getD s.pc dOp ∈ (U.blocks.getD s.bl dBl).ops := by
      rw [List.getD_eq_getElem?_getD (l := (U.blocks.getD s.bl dBl).ops), List.getElem?_eq_getElem hlt]; exact List.getElem_mem hlt
    have hO := (G.bls _ (blk_mem hbl)).ops _ hmem
    obtain ⟨o, ho⟩ : ∃ o, o = (U.blocks.getD s.bl dBl).ops.getD s.pc dOp := ⟨_, rfl⟩
    rw [← ho] at hmem hO ⊢
    rcases St.doR_counts { s with steps := s.steps + 1 } o with ⟨e1, e2, e3, e4⟩ | ⟨hk, e, ez⟩
    · have h2 : Prof U (St.doR { s with steps := s.steps + 1 } o).1 := h1.same e1 e2 e3 (by rw [e4]; exact Int.le_refl _)
      split
      · exact h2.trap G (by rw [e3]; exact hbl) (by rw [e1, e4]; exact hs) (by rw [e4]; show s.steps + 1 ≤ _; omega) _
      · split
        · exact h2
        · exact h2.same rfl rfl rfl (Int.le_refl _)
    · rw [if_neg (by rw [ez]; exact fun h => h rfl)]
      obtain ⟨r1, r2⟩ := hO.exit hk
      have h2 : Prof U (St.doR { s with steps := s.steps + 1 } o).1 := by
        rw [e]
        exact (h1.leave0 (fun hp => (hp _ (blk_mem hbl)).2 o hmem hk) _ hs).enter (by omega) (by show s.steps + 1 ≤ _; omega)
      split
      · exact h2
      · exact h2.same rfl rfl rfl (Int.le_refl _)
theorem sE_zero : ∀ n : Nat, sE (List.replicate n c0) = 0
  | 0 => rfl
  | n + 1 => by simp [List.replicate_succ, sE, c0, sE_zero n]; exact sE_zero n
theorem infl_zero (j : Int) : ∀ (bs : List BlkS) (n : Nat), infl bs (List.replicate n c0) j = 0
  | [], n => by cases n <;> rfl
  | b :: bs, 0 => rfl
  | b :: bs, n + 1 => by
    rw [List.replicate_succ]
    simp only [infl, infl_zero j bs n]
    simp [ctb, c0]
theorem getD_zero (n i : Nat) : (List.replicate n c0).getD i c0 = c0 := by
  rw [List.getD_eq_getElem?_getD, List.getElem?_replicate]; split <;> rfl
theorem Prof.init (G : UnGood U) (args : List Int) : Prof U (St.init U args) := by
  have e : ∀ i, (List.replicate U.blocks.length (0, 0, 0)).getD i c0 = c0 := fun i => getD_zero _ i
  refine Prof0.enter (b := 0) ?_ G.nb (by show (0 : Int) ≤ _; decide)
  refine ⟨by show (List.replicate _ _).length = _; simp, fun i => ?_, fun i => ?_, ?_, ?_, .inl ⟨rfl, rfl⟩, fun i _ => ?_, fun i _ => ?_, fun _ j hj => ?_⟩
  · show 0 ≤ ((List.replicate U.blocks.length (0, 0, 0)).getD i c0).2.1 ∧ 0 ≤ ((List.replicate U.blocks.length (0, 0, 0)).getD i c0).2.2
    rw [e]; decide
  · show ((List.replicate U.blocks.length (0, 0, 0)).getD i c0).2.1 + ((List.replicate U.blocks.length (0, 0, 0)).getD i c0).2.2 ≤ ((List.replicate U.blocks.length (0, 0, 0)).getD i c0).1
    rw [e]; decide
  · show sE (List.replicate U.blocks.length c0) ≤ 0
    rw [sE_zero]; decide
  · show (0 : Int) = min (sE (List.replicate U.blocks.length c0)) 20000
    rw [sE_zero]; decide
  · show ((List.replicate U.blocks.length (0, 0, 0)).getD i c0).2.1 = 0
    rw [e]; rfl
  · show ((List.replicate U.blocks.length (0, 0, 0)).getD i c0).2.2 = 0
    rw [e]; rfl
  · show ((List.replicate U.blocks.length (0, 0, 0)).getD j c0).1 = (if j = 0 then 1 else 0) + infl U.blocks (List.replicate U.blocks.length c0) j - (if j = 0 then 1 else 0)
    rw [e, infl_zero]
    show (0 : Int) = _
    omega
end Go.Proofs.YtfkjkdoloamakaaDoor
