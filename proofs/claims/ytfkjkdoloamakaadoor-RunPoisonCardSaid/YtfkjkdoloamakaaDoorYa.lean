/- What may be poison, as a law of the machine: lists of registers and cells that are closed under what operations make poison hold whatever a run makes poison; a run ends with a trap only at what may trap. Nothing of the program. -/
import Derived.Test.YtfkjkdoloamakaaDoorVa
import Derived.Test.YtfkjkdoloamakaaDoorMe
namespace Go.Proofs.YtfkjkdoloamakaaDoor
open Go.RowKit
set_option linter.unusedVariables false
set_option linter.unusedSimpArgs false

def mb (l : List Bool) (r : Int) : Bool := l.getD r.toNat false
/-- what an operation reads may be poison -/
def readsMay (R : List Bool) (o : OpI) : Prop := (hasA o.k = true ∧ mb R o.a = true) ∨ (hasB o.k = true ∧ mb R o.b = true) ∨ (hasC o.k = true ∧ mb R o.c = true)
/-- an operation makes nothing poison that may not be -/
structure ClosedO (R C : List Bool) (o : OpI) : Prop where
  late : o.k = 23 ∨ o.k = 24 ∨ o.k = 25 → mb R o.d = true
  keep : o.k = 19 → mb R o.a = true → mb C o.n = true
  fetch : o.k = 18 → mb C o.n = true → mb R o.d = true
  plain : 2 ≤ o.k → o.k ≤ 13 → readsMay R o → mb R o.d = true
def Closed (U : UnS) (R C : List Bool) : Prop := ∀ b ∈ U.blocks, ∀ o ∈ b.ops, ClosedO R C o
/-- whatever is poison may be -/
structure Snd (R C : List Bool) (s : St) : Prop where
  r : ∀ i : Nat, (s.regs.getD i (0, 0)).2 ≠ 0 → R.getD i false = true
  c : ∀ i : Nat, (s.kept.getD i (0, 0)).2 ≠ 0 → C.getD i false = true
variable {U : UnS} {R C : List Bool} {s : St}

theorem Snd.reg (h : Snd R C s) (r : Int) (hb : (s.reg r).2 ≠ 0) : mb R r = true := h.r r.toNat hb
theorem getD_set {α : Type} (l : List α) (i j : Nat) (v d : α) : (l.set i v).getD j d = if i = j ∧ j < l.length then v else l.getD j d := by
  rw [List.getD_eq_getElem?_getD, List.getD_eq_getElem?_getD, List.getElem?_set]
  by_cases h : i = j
  · subst h
    by_cases h2 : i < l.length
    · simp [h2]
    · simp [h2]
  · simp [h]
theorem Snd.put (h : Snd R C s) (r : Int) (v : Int × Int) (hv : v.2 ≠ 0 → mb R r = true) : Snd R C (s.put r v) := by
  refine ⟨fun i hi => ?_, h.c⟩
  have hi' : ((s.regs.set r.toNat v).getD i (0, 0)).2 ≠ 0 := hi
  rw [getD_set] at hi'
  by_cases c : r.toNat = i ∧ i < s.regs.length
  · rw [if_pos c] at hi'
    rw [← c.1]
    exact hv hi'
  · rw [if_neg c] at hi'
    exact h.r i hi'
theorem Snd.enter (h : Snd R C s) (b : Nat) : Snd R C (s.enter b) := ⟨h.r, h.c⟩
theorem Snd.trap (h : Snd R C s) (n : Int) : Snd R C (s.trap U n) := by
  unfold St.trap
  split
  · exact ⟨h.r, h.c⟩
  · exact (h.put U.code (n, 0) (fun e => absurd rfl e)).enter _
/-- the poison of what Do makes -/
theorem doV_bad (k n : Int) (a b c : Int × Int) (hk : known k = true) (hT : doT0 k a b = 0) (hv : (doV0 k n a b c).2 ≠ 0) :
    (k = 23 ∨ k = 24) ∨ (2 ≤ k ∧ k ≤ 13 ∧ (a.2 ≠ 0 ∨ (hasB k = true ∧ b.2 ≠ 0) ∨ (hasC k = true ∧ c.2 ≠ 0))) := by
  by_cases h1 : k = 1
  · subst h1; exact absurd rfl hv
  by_cases h2 : k = 2
  · subst h2
    exact .inr ⟨by decide, by decide, .inl hv⟩
  by_cases h12 : k = 12
  · subst h12
    have e : doV0 12 n a b c = (if a.2 ≠ 0 then a else if a.1 ≠ 0 then b else c) := rfl
    rw [e] at hv
    refine .inr ⟨by decide, by decide, ?_⟩
    by_cases ha : a.2 ≠ 0
    · exact .inl ha
    · rw [if_neg ha] at hv
      by_cases hz : a.1 ≠ 0
      · rw [if_pos hz] at hv; exact .inr (.inl ⟨rfl, hv⟩)
      · rw [if_neg hz] at hv; exact .inr (.inr ⟨rfl, hv⟩)
  have h2k : two2 k = true := by simpa [known, h1, h2, h12] using hk
  have e1 : doV0 k n a b c = bothV k a b := by simp [doV0, h1, h2, h12]
  have e2 : doT0 k a b = bothT k a b := by simp [doT0, h1, h2, h12]
  rw [e1] at hv
  rw [e2] at hT
  by_cases h23 : k = 23
  · exact .inl (.inl h23)
  by_cases h24 : k = 24
  · exact .inl (.inr h24)
  have hl : lateK k = k := by unfold lateK; rw [if_neg h23, if_neg h24]
  have hb : lateB k = false := by unfold lateB; exact decide_eq_false (by omega)
  have hr : (3 ≤ k ∧ k ≤ 11) ∨ (13 ≤ k ∧ k ≤ 15) := by
    unfold two2 has2 at h2k
    rw [hl] at h2k
    exact of_decide_eq_true h2k
  by_cases hd : k = 14 ∨ k = 15
  · exfalso
    have hdv : dv k = true := decide_eq_true hd
    unfold bothT at hT
    unfold bothV at hv
    simp only [hl, hb, hdv] at hT hv
    by_cases hz : (if bad2 a b = 0 then mT k b.1 else bad2 a b) = 0
    · rw [hz] at hv
      simp at hv
    · simp only [hz, ne_eq, not_false_eq_true, and_self, if_true] at hT
  · have hdv : dv k = false := decide_eq_false hd
    have hm : ∀ y, mT k y = 0 := fun y => by unfold mT; rw [hdv]; simp
    unfold bothV at hv
    simp only [hl, hb, hdv, hm] at hv
    have hbad : bad2 a b ≠ 0 := by
      intro h0
      rw [h0] at hv
      simp at hv
    refine .inr ⟨by omega, by omega, ?_⟩
    unfold bad2 at hbad
    by_cases ha : a.2 = 0
    · rw [if_pos ha] at hbad
      exact .inr (.inl ⟨decide_eq_true (by omega), hbad⟩)
    · exact .inl ha
theorem Snd.act (h : Snd R C s) (o : OpI) (hc : ClosedO R C o) (hk1 : 1 ≤ o.k) : Snd R C (s.act o).1 := by
  unfold St.act
  by_cases c1 : o.k = 18
  · rw [if_pos c1]
    exact h.put o.d _ fun hv => hc.fetch c1 (h.c o.n.toNat hv)
  rw [if_neg c1]
  by_cases c2 : o.k = 19
  · rw [if_pos c2]
    refine ⟨h.r, fun i hi => ?_⟩
    have hi' : ((s.kept.set o.n.toNat (s.reg o.a)).getD i (0, 0)).2 ≠ 0 := hi
    rw [getD_set] at hi'
    by_cases c : o.n.toNat = i ∧ i < s.kept.length
    · rw [if_pos c] at hi'
      rw [← c.1]
      exact hc.keep c2 (h.reg o.a hi')
    · rw [if_neg c] at hi'
      exact h.c i hi'
  rw [if_neg c2]
  by_cases c3 : o.k = 16 ∨ o.k = 25 ∨ o.k = 17
  · rw [if_pos c3]
    by_cases c4 : elemT s o ≠ 0 ∧ o.k = 25
    · rw [if_pos c4]
      exact h.put o.d _ fun _ => hc.late (.inr (.inr c4.2))
    rw [if_neg c4]
    split
    · exact h
    split
    · exact ⟨h.r, h.c⟩
    · exact h.put o.d _ fun e => absurd rfl e
  rw [if_neg c3]
  split
  · exact h
  split
  · exact ⟨h.r, h.c⟩
  split
  · exact h.enter _
  · exact h
theorem Snd.doR (h : Snd R C s) (o : OpI) (hc : ClosedO R C o) (hk1 : 1 ≤ o.k) : Snd R C (s.doR o).1 := by
  unfold St.doR
  by_cases c1 : o.g ≠ -1 ∧ (s.reg o.g).2 ≠ 0
  · rw [if_pos c1]; exact h
  rw [if_neg c1]
  by_cases c2 : o.g ≠ -1 ∧ (s.reg o.g).1 = 0
  · rw [if_pos c2]; exact h
  rw [if_neg c2]
  by_cases c3 : known o.k = true
  · rw [if_pos c3]
    by_cases c4 : doT0 o.k (s.reg o.a) (s.reg o.b) ≠ 0
    · rw [if_pos c4]; exact h
    · rw [if_neg c4]
      refine h.put o.d _ fun hv => ?_
      have hT : doT0 o.k (s.reg o.a) (s.reg o.b) = 0 := Classical.not_not.1 c4
      rcases doV_bad o.k o.n _ _ _ c3 hT hv with hl | ⟨k2, k13, hr⟩
      · exact hc.late (hl.elim .inl fun h => .inr (.inl h))
      · refine hc.plain k2 k13 ?_
        rcases hr with hr | ⟨hB, hr⟩ | ⟨hC, hr⟩
        · exact .inl ⟨decide_eq_true (by omega), h.reg _ hr⟩
        · exact .inr (.inl ⟨hB, h.reg _ hr⟩)
        · exact .inr (.inr ⟨hC, h.reg _ hr⟩)
  · rw [if_neg c3]; exact h.act o hc hk1
theorem Snd.leave (h : Snd R C s) (x : EdS) : Snd R C (s.leave U x) := by
  unfold St.leave
  split
  · exact h.trap _
  split
  · exact h.trap _
  split
  · exact ⟨h.r, h.c⟩
  split
  · exact ⟨h.r, h.c⟩
  · exact ⟨h.r, h.c⟩
theorem Snd.step (G : UnGood U) (S : StGood U s) (hcl : Closed U R C) (h : Snd R C s) : Snd R C (s.step U) := by
  unfold St.step
  simp only
  have h1 : Snd R C ({ s with steps := s.steps + 1 } : St) := ⟨h.r, h.c⟩
  split
  · exact h1.leave _
  · rename_i hp
    have hpc := S.pc
    have hlt : s.pc < (U.blocks.getD s.bl dBl).ops.length := by omega
    have hO := S.op G hlt
    have hco : ClosedO R C ((U.blocks.getD s.bl dBl).ops.getD s.pc dOp) := by
      have hb : U.blocks.getD s.bl dBl ∈ U.blocks := by rw [List.getD_eq_getElem?_getD, List.getElem?_eq_getElem S.bl]; exact List.getElem_mem _
      have hm : ∀ (l : List OpI) (i : Nat) (_ : i < l.length), l.getD i dOp ∈ l := fun l i h => by
        rw [List.getD_eq_getElem?_getD, List.getElem?_eq_getElem h]; exact List.getElem_mem _
      exact hcl _ hb _ (hm _ _ hlt)
    have h2 := h1.doR _ hco hO.k1
    split
    · exact h2.trap _
    split
    · exact h2
    · exact ⟨h2.r, h2.c⟩
theorem Snd.init (args : List Int) (R C : List Bool) : Snd R C (St.init U args) := by
  have h0 : ∀ (n i : Nat), ((List.replicate n ((0 : Int), (0 : Int))).getD i (0, 0)).2 = 0 := fun n i => by
    rw [List.getD_eq_getElem?_getD, List.getElem?_replicate]
    split <;> rfl
  refine ⟨fun i hi => absurd ?_ hi, fun i hi => absurd (h0 _ i) hi⟩
  show ((args.map (fun x => (x, (0 : Int))) ++ List.replicate (U.regs.toNat - args.length) ((0 : Int), (0 : Int))).getD i (0, 0)).2 = 0
  rw [List.getD_eq_getElem?_getD, List.getElem?_append]
  split
  · rename_i hlt
    rw [List.getElem?_eq_getElem hlt]
    simp
  · rw [← List.getD_eq_getElem?_getD]
    exact h0 _ _
/-- an operation, an end that may trap -/
def opMay (R : List Bool) (o : OpI) : Prop := (o.g ≠ -1 ∧ mb R o.g = true) ∨ (o.k = 14 ∨ o.k = 15 ∨ o.k = 16 ∨ o.k = 17) ∨ ((o.k = 20 ∨ o.k = 21 ∨ o.k = 22) ∧ mb R o.a = true)
def edMay (R : List Bool) (x : EdS) : Prop := x.k = 4 ∨ (x.k ≠ 1 ∧ mb R x.a = true)
theorem unknown_k2 {k : Int} (h1 : 1 ≤ k) (h2 : k ≤ 25) (h : known k = false) : k = 16 ∨ k = 17 ∨ k = 18 ∨ k = 19 ∨ k = 20 ∨ k = 21 ∨ k = 22 ∨ k = 25 := by
  have h3 : k = 1 ∨ k = 2 ∨ k = 3 ∨ k = 4 ∨ k = 5 ∨ k = 6 ∨ k = 7 ∨ k = 8 ∨ k = 9 ∨ k = 10 ∨ k = 11 ∨ k = 12 ∨ k = 13 ∨ k = 14 ∨ k = 15 ∨ k = 23 ∨ k = 24 ∨ (k = 16 ∨ k = 17 ∨ k = 18 ∨ k = 19 ∨ k = 20 ∨ k = 21 ∨ k = 22 ∨ k = 25) := by omega
  rcases h3 with rfl | rfl | rfl | rfl | rfl | rfl | rfl | rfl | rfl | rfl | rfl | rfl | rfl | rfl | rfl | rfl | rfl | h3
  all_goals first | exact h3 | (revert h; decide)
theorem doT_may (k : Int) (a b : Int × Int) (hk : known k = true) (hT : doT0 k a b ≠ 0) : k = 14 ∨ k = 15 := by
  by_cases h : k = 14 ∨ k = 15
  · exact h
  · exfalso
    apply hT
    unfold doT0
    by_cases h1 : k = 1 ∨ k = 2 ∨ k = 12
    · rw [if_pos h1]
    · rw [if_neg h1]
      unfold bothT
      by_cases hl : k = 23 ∨ k = 24
      · have hb : lateB k = true := decide_eq_true hl
        simp [hb]
      · have hlk : lateK k = k := by unfold lateK; rw [if_neg (fun e => hl (.inl e)), if_neg (fun e => hl (.inr e))]
        have hd : dv (lateK k) = false := by rw [hlk]; exact decide_eq_false h
        simp [hd]
theorem doR_may (h : Snd R C s) (o : OpI) (hk1 : 1 ≤ o.k) (hk2 : o.k ≤ 25) (ht : (s.doR o).2.1 ≠ 0) : opMay R o := by
  revert ht
  unfold St.doR
  by_cases c1 : o.g ≠ -1 ∧ (s.reg o.g).2 ≠ 0
  · rw [if_pos c1]; intro _; exact .inl ⟨c1.1, h.reg _ c1.2⟩
  rw [if_neg c1]
  by_cases c2 : o.g ≠ -1 ∧ (s.reg o.g).1 = 0
  · rw [if_pos c2]; intro ht; exact absurd rfl ht
  rw [if_neg c2]
  by_cases c3 : known o.k = true
  · rw [if_pos c3]
    by_cases c4 : doT0 o.k (s.reg o.a) (s.reg o.b) ≠ 0
    · intro _
      exact .inr (.inl ((doT_may _ _ _ c3 c4).elim .inl fun h => .inr (.inl h)))
    · rw [if_neg c4]; intro ht; exact absurd rfl ht
  · rw [if_neg c3]
    unfold St.act
    by_cases d1 : o.k = 18
    · rw [if_pos d1]; intro ht; exact absurd rfl ht
    rw [if_neg d1]
    by_cases d2 : o.k = 19
    · rw [if_pos d2]; intro ht; exact absurd rfl ht
    rw [if_neg d2]
    by_cases d3 : o.k = 16 ∨ o.k = 25 ∨ o.k = 17
    · rw [if_pos d3]
      by_cases d4 : elemT s o ≠ 0 ∧ o.k = 25
      · rw [if_pos d4]; intro ht; exact absurd rfl ht
      · rw [if_neg d4]
        by_cases d5 : elemT s o ≠ 0
        · intro _
          have : o.k ≠ 25 := fun e => d4 ⟨d5, e⟩
          exact .inr (.inl (by omega))
        · rw [if_neg d5]
          split
          · intro ht; exact absurd rfl ht
          · intro ht; exact absurd rfl ht
    rw [if_neg d3]
    by_cases d6 : (s.reg o.a).2 ≠ 0
    · intro _
      refine .inr (.inr ⟨?_, h.reg _ d6⟩)
      rcases unknown_k2 hk1 hk2 (by simpa using c3) with e | e | e | e | e | e | e | e <;> omega
    · rw [if_neg d6]
      split
      · intro ht; exact absurd rfl ht
      split
      · intro ht; exact absurd rfl ht
      · intro ht; exact absurd rfl ht
theorem act_kind2 (s : St) (o : OpI) : (s.act o).1.kind = s.kind := by
  unfold St.act; repeat' (first | rfl | split)
theorem doR_kind2 (s : St) (o : OpI) : (s.doR o).1.kind = s.kind := by
  unfold St.doR; repeat' (first | rfl | exact act_kind2 _ _ | split)
theorem leave_may (h : Snd R C s) (hk : s.kind = 0) (x : EdS) (ht : (s.leave U x).kind = 2) : edMay R x := by
  revert ht
  unfold St.leave
  by_cases c1 : x.k ≠ 1 ∧ (s.reg x.a).2 ≠ 0
  · intro _; exact .inr ⟨c1.1, h.reg _ c1.2⟩
  rw [if_neg c1]
  by_cases c2 : x.k = 4
  · intro _; exact .inl c2
  rw [if_neg c2]
  by_cases c3 : x.k = 3
  · rw [if_pos c3]; intro ht; exact absurd (show (1 : Int) = 2 from ht) (by decide)
  rw [if_neg c3]
  split
  · intro ht
    have e : s.kind = 2 := ht
    rw [hk] at e; exact absurd e (by decide)
  · intro ht
    have e : s.kind = 2 := ht
    rw [hk] at e; exact absurd e (by decide)
/-- a step that ends the run with a trap is one of an operation, or of an end, that may trap -/
theorem step_may (G : UnGood U) (S : StGood U s) (h : Snd R C s) (hk : s.kind = 0) (ht : (s.step U).kind = 2) :
    (s.pc = (U.blocks.getD s.bl dBl).ops.length → edMay R (U.blocks.getD s.bl dBl).ed) ∧ (s.pc ≠ (U.blocks.getD s.bl dBl).ops.length → opMay R ((U.blocks.getD s.bl dBl).ops.getD s.pc dOp)) := by
  have h1 : Snd R C ({ s with steps := s.steps + 1 } : St) := ⟨h.r, h.c⟩
  revert ht
  unfold St.step
  simp only
  by_cases hp : s.pc = (U.blocks.getD s.bl dBl).ops.length
  · rw [if_pos hp]
    intro ht
    exact ⟨fun _ => leave_may h1 hk _ ht, fun hn => absurd hp hn⟩
  · rw [if_neg hp]
    have hpc := S.pc
    have hO := S.op G (show s.pc < _ by omega)
    intro ht
    refine ⟨fun e => absurd e hp, fun _ => ?_⟩
    by_cases c : (St.doR { s with steps := s.steps + 1 } ((U.blocks.getD s.bl dBl).ops.getD s.pc dOp)).2.1 ≠ 0
    · exact doR_may h1 _ hO.k1 hO.k2 c
    · exfalso
      rw [if_neg c] at ht
      have hd := doR_kind2 ({ s with steps := s.steps + 1 } : St) ((U.blocks.getD s.bl dBl).ops.getD s.pc dOp)
      have hd0 : (St.doR { s with steps := s.steps + 1 } ((U.blocks.getD s.bl dBl).ops.getD s.pc dOp)).1.kind = 0 := hd.trans hk
      revert ht
      split
      · intro ht; rw [hd0] at ht; exact absurd ht (by decide)
      · intro ht
        have e : (St.doR { s with steps := s.steps + 1 } ((U.blocks.getD s.bl dBl).ops.getD s.pc dOp)).1.kind = 2 := ht
        rw [hd0] at e; exact absurd e (by decide)
theorem Snd.run (G : UnGood U) (hcl : Closed U R C) : ∀ (n : Nat) (s : St), StGood U s → s.steps + n ≤ 1000000000000 → Snd R C s → Snd R C (St.run U n s)
  | 0, s, _, _, h => h
  | n + 1, s, S, hs, h => by
    by_cases hk : s.kind = 0
    · have e1 : St.run U (n + 1) s = St.run U n (s.step U) := if_pos hk
      rw [e1]
      exact Snd.run G hcl n _ (S.step G (by omega)) (by rw [St.step_steps]; omega) (h.step G S hcl)
    · rw [St.run_stop U _ s hk]; exact h
end Go.Proofs.YtfkjkdoloamakaaDoor
