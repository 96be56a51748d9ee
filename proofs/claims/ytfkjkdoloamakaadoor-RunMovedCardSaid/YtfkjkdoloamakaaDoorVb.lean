/- A run of a moved unit does what a run of the unit does: pure. -/
import Derived.Test.YtfkjkdoloamakaaDoorVa
import Derived.Test.YtfkjkdoloamakaaDoorKb
namespace Go.Proofs.YtfkjkdoloamakaaDoor
open Go.RowKit
set_option linter.unusedVariables false
set_option linter.unusedSimpArgs false
variable {B R : List Int} {U Y : UnS} {s t : St}

/-- what is the same, and what is moved -/
structure Sim (B R : List Int) (U : UnS) (s t : St) : Prop where
  tl : (t.regs.length : Int) = U.regs
  sl : (s.regs.length : Int) = U.regs
  reg : ∀ r, inR r U.regs → t.reg (ixL R r) = s.reg r
  kept : t.kept = s.kept
  arrs : t.arrs = s.arrs
  prints : t.prints = s.prints
  steps : t.steps = s.steps
  kind : t.kind = s.kind
  val : t.val = s.val
  bl : t.bl = (ixL B s.bl).toNat
  pc : t.pc = s.pc
  sb : s.bl < U.blocks.length

theorem getD_setV (v : Int × Int) (l : List (Int × Int)) (i k : Nat) (h : i < l.length) : (l.set i v).getD k (0, 0) = if k = i then v else l.getD k (0, 0) := by
  rw [List.getD_eq_getElem?_getD, List.getElem?_set]
  by_cases e : k = i
  · rw [if_pos e.symm, if_pos (e ▸ h), if_pos e]; rfl
  · rw [if_neg (fun x => e x.symm), if_neg e, List.getD_eq_getElem?_getD]
theorem St.reg_put (s : St) (r q : Int) (v : Int × Int) (hr : inR r s.regs.length) (hq : 0 ≤ q) : (s.put r v).reg q = if q = r then v else s.reg q := by
  obtain ⟨h1, h2⟩ := hr
  show (s.regs.set r.toNat v).getD q.toNat (0, 0) = _
  rw [getD_setV _ _ _ _ (by omega)]
  by_cases e : q = r
  · rw [if_pos (by rw [e]), if_pos e]
  · rw [if_neg (by omega), if_neg e]; rfl
theorem Sim.put (h : Sim B R U s t) (M : Mov B R U Y) {r : Int} (hr : inR r U.regs) (v : Int × Int) : Sim B R U (s.put r v) (t.put (ixL R r) v) where
  tl := by show ((t.regs.set _ _).length : Int) = _; rw [List.length_set]; exact h.tl
  sl := by show ((s.regs.set _ _).length : Int) = _; rw [List.length_set]; exact h.sl
  reg := fun q hq => by
    have hR := M.r.rng r hr
    have hQ := M.r.rng q hq
    rw [St.reg_put s r q v (by rw [h.sl]; exact hr) hq.1, St.reg_put t _ _ v (by rw [h.tl]; exact hR) hQ.1, h.reg q hq]
    by_cases e : q = r
    · rw [if_pos (by rw [e]), if_pos e]
    · rw [if_neg (fun x => e (M.r.inj q r hq hr x)), if_neg e]
  kept := h.kept
  arrs := h.arrs
  prints := h.prints
  steps := h.steps
  kind := h.kind
  val := h.val
  bl := h.bl
  pc := h.pc
  sb := h.sb
theorem Sim.enter (h : Sim B R U s t) {b : Int} (hb : inR b U.blocks.length) : Sim B R U (s.enter b.toNat) (t.enter (ixL B b).toNat) where
  tl := h.tl
  sl := h.sl
  reg := h.reg
  kept := h.kept
  arrs := h.arrs
  prints := h.prints
  steps := h.steps
  kind := h.kind
  val := h.val
  bl := by show (ixL B b).toNat = (ixL B (b.toNat : Nat)).toNat; rw [Int.toNat_of_nonneg hb.1]
  pc := rfl
  sb := by have h1 := hb.1; have h2 := hb.2; show b.toNat < _; omega
theorem Mov.block (M : Mov B R U Y) (h : Sim B R U s t) : Y.blocks.getD t.bl dBl = movB B R (U.blocks.getD s.bl dBl) := by rw [h.bl]; exact M.bk _ h.sb
theorem Sim.trap (h : Sim B R U s t) (M : Mov B R U Y) (G : UnFine U) (n : Int) : Sim B R U (s.trap U n) (t.trap Y n) := by
  have hg := (G.bls _ (blk_mem h.sb)).ct
  unfold St.trap
  rw [M.block h]
  obtain ⟨b, hb⟩ : ∃ b, b = U.blocks.getD s.bl dBl := ⟨_, rfl⟩
  rw [← hb] at hg ⊢
  show Sim B R U _ (if (if 0 ≤ b.ct then ixL B b.ct else b.ct) < 0 then _ else _)
  rcases hg with e | e
  · rw [e]
    exact { tl := h.tl, sl := h.sl, reg := h.reg, kept := h.kept, arrs := h.arrs, prints := h.prints, steps := h.steps, kind := rfl, val := rfl, bl := h.bl, pc := h.pc, sb := h.sb }
  · have h2 := M.b.rng _ e
    have e1 := e.1
    have e2 := h2.1
    rw [if_pos e1, if_neg (by omega), if_neg (by omega), M.cd]
    show Sim B R U _ ((t.put (ixL R U.code) (n, 0)).enter (if 0 ≤ b.ct then ixL B b.ct else b.ct).toNat)
    rw [if_pos e1]
    exact (h.put M G.cd (n, 0)).enter e
theorem Sim.elemT (h : Sim B R U s t) {o o' : OpI} (hk : o'.k = o.k) (hn : o'.n = o.n) (ha : t.reg o'.a = s.reg o.a) (hb : o.k = 17 → t.reg o'.b = s.reg o.b) : Go.Proofs.YtfkjkdoloamakaaDoor.elemT t o' = Go.Proofs.YtfkjkdoloamakaaDoor.elemT s o := by
  have harr : t.arr o'.n = s.arr o.n := by unfold St.arr; rw [hn, h.arrs]
  have hbad : badOf t.regs (readsArr o') = badOf s.regs (readsArr o) := by
    unfold readsArr
    rw [hk]
    by_cases e : o.k = 17
    · rw [if_pos e, if_pos e]
      have hb := hb e
      show (if (t.reg o'.a).2 ≠ 0 then (t.reg o'.a).2 else if (t.reg o'.b).2 ≠ 0 then (t.reg o'.b).2 else 0) = (if (s.reg o.a).2 ≠ 0 then (s.reg o.a).2 else if (s.reg o.b).2 ≠ 0 then (s.reg o.b).2 else 0)
      rw [ha, hb]
    · rw [if_neg e, if_neg e]
      show (if (t.reg o'.a).2 ≠ 0 then (t.reg o'.a).2 else 0) = (if (s.reg o.a).2 ≠ 0 then (s.reg o.a).2 else 0)
      rw [ha]
  unfold Go.Proofs.YtfkjkdoloamakaaDoor.elemT
  rw [hbad, harr, ha]
theorem movO_k (B R : List Int) (o : OpI) : (movO B R o).k = o.k := rfl
/-- the state, the trap's number, whether the block is left -/
def Sim3 (B R : List Int) (U : UnS) (x y : St × Int × Bool) : Prop := Sim B R U x.1 y.1 ∧ y.2 = x.2
theorem Sim.act (h : Sim B R U s t) (M : Mov B R U Y) {o : OpI} (hI : OpIn U o) (hk : known o.k = false) (k1 : 1 ≤ o.k) (k2 : o.k ≤ 25) : Sim3 B R U (s.act o) (t.act (movO B R o)) := by
  have hA : ∀ (e : hasA o.k = true), t.reg (movO B R o).a = s.reg o.a := fun e => by
    show t.reg (if hasA o.k then ixL R o.a else o.a) = _
    rw [if_pos e]; exact h.reg _ (hI.a e)
  have hB : ∀ (e : hasB o.k = true), t.reg (movO B R o).b = s.reg o.b := fun e => by
    show t.reg (if hasB o.k then ixL R o.b else o.b) = _
    rw [if_pos e]; exact h.reg _ (hI.b e)
  have hD : ∀ (e : hasD o.k = true), (movO B R o).d = ixL R o.d := fun e => by
    show (if hasD o.k then ixL R o.d else o.d) = _
    rw [if_pos e]
  have hN : o.k ≠ 21 → (movO B R o).n = o.n := fun e => if_neg e
  obtain ⟨o', ho'⟩ : ∃ o', o' = movO B R o := ⟨_, rfl⟩
  have hk' : o'.k = o.k := by rw [ho']; rfl
  have hN21 : o.k = 21 → o'.n = ixL B o.n := fun e => by rw [ho']; exact if_pos e
  rw [← ho'] at hA hB hD hN ⊢
  clear ho'
  unfold St.act
  rw [hk']
  by_cases e18 : o.k = 18
  · have hd : hasD o.k = true := by rw [e18]; rfl
    rw [if_pos e18, if_pos e18, hD hd, hN (by omega), h.kept]
    exact ⟨h.put M (hI.d hd) _, rfl⟩
  rw [if_neg e18, if_neg e18]
  by_cases e19 : o.k = 19
  · rw [if_pos e19, if_pos e19, hN (by omega), hA (by rw [e19]; rfl)]
    exact ⟨{ h with kept := by show t.kept.set _ _ = s.kept.set _ _; rw [h.kept] }, rfl⟩
  rw [if_neg e19, if_neg e19]
  have ha : hasA o.k = true := by
    unfold hasA
    refine decide_eq_true ⟨fun e => ?_, e18⟩
    rw [e] at hk; exact absurd hk (by decide)
  have hAA := hA ha
  by_cases em : o.k = 16 ∨ o.k = 25 ∨ o.k = 17
  · rw [if_pos em, if_pos em, h.elemT hk' (hN (by omega)) hAA (fun e => hB (by rw [e]; rfl))]
    obtain ⟨x, hx⟩ : ∃ x, x = Go.Proofs.YtfkjkdoloamakaaDoor.elemT s o := ⟨_, rfl⟩
    rw [← hx]
    by_cases c1 : x ≠ 0 ∧ o.k = 25
    · have hd : hasD o.k = true := by rw [c1.2]; rfl
      rw [if_pos c1, if_pos c1, hD hd]
      exact ⟨h.put M (hI.d hd) _, rfl⟩
    rw [if_neg c1, if_neg c1]
    by_cases c2 : x ≠ 0
    · rw [if_pos c2, if_pos c2]; exact ⟨h, rfl⟩
    rw [if_neg c2, if_neg c2]
    by_cases c3 : o.k = 17
    · rw [if_pos c3, if_pos c3, hN (by omega), hAA, hB (by rw [c3]; rfl)]
      exact ⟨{ h with arrs := by show t.arrs.modify _ _ = s.arrs.modify _ _; rw [h.arrs] }, rfl⟩
    · have hd : hasD o.k = true := by
        unfold hasD
        refine decide_eq_true ⟨c3, e19, ?_, ?_, ?_⟩ <;> omega
      have harr : t.arr o'.n = s.arr o.n := by unfold St.arr; rw [hN (by omega), h.arrs]
      rw [if_neg c3, if_neg c3, hAA, harr, hD hd]
      exact ⟨h.put M (hI.d hd) _, rfl⟩
  rw [if_neg em, if_neg em, hAA]
  by_cases c1 : (s.reg o.a).2 ≠ 0
  · rw [if_pos c1, if_pos c1]; exact ⟨h, rfl⟩
  rw [if_neg c1, if_neg c1]
  by_cases c2 : o.k = 20
  · rw [if_pos c2, if_pos c2]
    exact ⟨{ h with prints := by show t.prints ++ _ = s.prints ++ _; rw [h.prints] }, rfl⟩
  rw [if_neg c2, if_neg c2]
  by_cases c3 : o.k = 21 ∧ (s.reg o.a).1 ≠ 0
  · rw [if_pos c3, if_pos c3, hN21 c3.1]
    exact ⟨h.enter (hI.n c3.1), rfl⟩
  · rw [if_neg c3, if_neg c3]; exact ⟨h, rfl⟩
theorem two_has : ∀ k : Int, 1 ≤ k → k ≤ 25 → known k = true → hasD k = true ∧ (k ≠ 1 → hasA k = true) ∧ (¬ (k = 1 ∨ k = 2) → hasB k = true) ∧ (k = 12 → hasC k = true) ∧ k ≠ 21 := by
  intro k h1 h2
  refine kinds25 (P := fun k => known k = true → hasD k = true ∧ (k ≠ 1 → hasA k = true) ∧ (¬ (k = 1 ∨ k = 2) → hasB k = true) ∧ (k = 12 → hasC k = true) ∧ k ≠ 21) ?_ k h1 h2
  exact of_decide_eq_true (by kernel_rfl)
theorem Sim.doR (h : Sim B R U s t) (M : Mov B R U Y) {o : OpI} (hF : OpFine U o) : Sim3 B R U (s.doR o) (t.doR (movO B R o)) := by
  have hI := hF.in_
  have hg : (o.g = -1 ∧ (movO B R o).g = -1) ∨ (o.g ≠ -1 ∧ (movO B R o).g ≠ -1 ∧ t.reg (movO B R o).g = s.reg o.g) := by
    show (o.g = -1 ∧ (if 0 ≤ o.g then ixL R o.g else o.g) = -1) ∨ (o.g ≠ -1 ∧ (if 0 ≤ o.g then ixL R o.g else o.g) ≠ -1 ∧ t.reg (if 0 ≤ o.g then ixL R o.g else o.g) = s.reg o.g)
    rcases hF.g with e | e
    · left; rw [e]; exact ⟨rfl, rfl⟩
    · right
      have e1 := e.1
      have e2 := (M.r.rng _ e).1
      rw [if_pos e1]
      exact ⟨by omega, by omega, h.reg _ e⟩
  have rest : Sim3 B R U (if known o.k = true then (if doT0 o.k (s.reg o.a) (s.reg o.b) ≠ 0 then (s, doT0 o.k (s.reg o.a) (s.reg o.b), false) else (s.put o.d (doV0 o.k o.n (s.reg o.a) (s.reg o.b) (s.reg o.c)), 0, false)) else s.act o)
      (if known (movO B R o).k = true then (if doT0 (movO B R o).k (t.reg (movO B R o).a) (t.reg (movO B R o).b) ≠ 0 then (t, doT0 (movO B R o).k (t.reg (movO B R o).a) (t.reg (movO B R o).b), false) else (t.put (movO B R o).d (doV0 (movO B R o).k (movO B R o).n (t.reg (movO B R o).a) (t.reg (movO B R o).b) (t.reg (movO B R o).c)), 0, false)) else t.act (movO B R o)) := by
    rw [movO_k]
    by_cases hk : known o.k = true
    · obtain ⟨hd, ha, hb, hc, h21⟩ := two_has o.k hF.k1 hF.k2 hk
      rw [if_pos hk, if_pos hk]
      have eN : (movO B R o).n = o.n := if_neg h21
      have eD : (movO B R o).d = ixL R o.d := if_pos hd
      have eT : doT0 o.k (t.reg (movO B R o).a) (t.reg (movO B R o).b) = doT0 o.k (s.reg o.a) (s.reg o.b) := by
        unfold doT0
        by_cases e : o.k = 1 ∨ o.k = 2 ∨ o.k = 12
        · rw [if_pos e, if_pos e]
        · rw [if_neg e, if_neg e]
          have ha := ha (by omega)
          have hb := hb (by omega)
          have e1 : (movO B R o).a = ixL R o.a := if_pos ha
          have e2 : (movO B R o).b = ixL R o.b := if_pos hb
          rw [e1, e2, h.reg _ (hI.a ha), h.reg _ (hI.b hb)]
      have eV : doV0 o.k o.n (t.reg (movO B R o).a) (t.reg (movO B R o).b) (t.reg (movO B R o).c) = doV0 o.k o.n (s.reg o.a) (s.reg o.b) (s.reg o.c) := by
        unfold doV0
        by_cases e : o.k = 1
        · rw [if_pos e, if_pos e]
        rw [if_neg e, if_neg e]
        have ha := ha e
        have e1 : (movO B R o).a = ixL R o.a := if_pos ha
        rw [e1, h.reg _ (hI.a ha)]
        by_cases e2 : o.k = 2
        · rw [if_pos e2, if_pos e2]
        rw [if_neg e2, if_neg e2]
        have hb := hb (by omega)
        have e3 : (movO B R o).b = ixL R o.b := if_pos hb
        rw [e3, h.reg _ (hI.b hb)]
        by_cases e4 : o.k = 12
        · have hc := hc e4
          have e5 : (movO B R o).c = ixL R o.c := if_pos hc
          rw [if_pos e4, if_pos e4, e5, h.reg _ (hI.c hc)]
        · rw [if_neg e4, if_neg e4]
      rw [eT, eN, eV, eD]
      by_cases hT : doT0 o.k (s.reg o.a) (s.reg o.b) ≠ 0
      · rw [if_pos hT, if_pos hT]; exact ⟨h, rfl⟩
      · rw [if_neg hT, if_neg hT]; exact ⟨h.put M (hI.d hd) _, rfl⟩
    · rw [if_neg hk, if_neg hk]
      exact h.act M hI (by simpa using hk) hF.k1 hF.k2
  unfold St.doR
  rcases hg with ⟨e1, e2⟩ | ⟨e1, e2, e3⟩
  · have n1 : ¬ (o.g ≠ -1 ∧ (s.reg o.g).2 ≠ 0) := fun x => x.1 e1
    have n2 : ¬ (o.g ≠ -1 ∧ (s.reg o.g).1 = 0) := fun x => x.1 e1
    have n3 : ¬ ((movO B R o).g ≠ -1 ∧ (t.reg (movO B R o).g).2 ≠ 0) := fun x => x.1 e2
    have n4 : ¬ ((movO B R o).g ≠ -1 ∧ (t.reg (movO B R o).g).1 = 0) := fun x => x.1 e2
    rw [if_neg n1, if_neg n2, if_neg n3, if_neg n4]
    exact rest
  · rw [e3]
    by_cases c1 : (s.reg o.g).2 ≠ 0
    · have p1 : o.g ≠ -1 ∧ (s.reg o.g).2 ≠ 0 := ⟨e1, c1⟩
      have p2 : (movO B R o).g ≠ -1 ∧ (s.reg o.g).2 ≠ 0 := ⟨e2, c1⟩
      rw [if_pos p1, if_pos p2]; exact ⟨h, rfl⟩
    have n1 : ¬ (o.g ≠ -1 ∧ (s.reg o.g).2 ≠ 0) := fun x => c1 x.2
    have n3 : ¬ ((movO B R o).g ≠ -1 ∧ (s.reg o.g).2 ≠ 0) := fun x => c1 x.2
    rw [if_neg n1, if_neg n3]
    by_cases c2 : (s.reg o.g).1 = 0
    · have p1 : o.g ≠ -1 ∧ (s.reg o.g).1 = 0 := ⟨e1, c2⟩
      have p2 : (movO B R o).g ≠ -1 ∧ (s.reg o.g).1 = 0 := ⟨e2, c2⟩
      rw [if_pos p1, if_pos p2]; exact ⟨h, rfl⟩
    have n2 : ¬ (o.g ≠ -1 ∧ (s.reg o.g).1 = 0) := fun x => c2 x.2
    have n4 : ¬ ((movO B R o).g ≠ -1 ∧ (s.reg o.g).1 = 0) := fun x => c2 x.2
    rw [if_neg n2, if_neg n4]
    exact rest
theorem Sim.seen (h : Sim B R U s t) (f g : List (Int × Int × Int) → List (Int × Int × Int)) : Sim B R U { s with seen := f s.seen } { t with seen := g t.seen } :=
  { tl := h.tl, sl := h.sl, reg := h.reg, kept := h.kept, arrs := h.arrs, prints := h.prints, steps := h.steps, kind := h.kind, val := h.val, bl := h.bl, pc := h.pc, sb := h.sb }
theorem Sim.leave (h : Sim B R U s t) (M : Mov B R U Y) (G : UnFine U) {e : EdS} (he : EdFine U e) : Sim B R U (s.leave U e) (t.leave Y (movE B R e)) := by
  have hA : e.k ≠ 1 → t.reg (movE B R e).a = s.reg e.a := fun hk => by
    show t.reg (if e.k ≠ 1 then ixL R e.a else e.a) = _
    rw [if_pos hk]; exact h.reg _ (he.a.1 hk)
  have hT : e.k = 1 ∨ e.k = 2 → (movE B R e).t = ixL B e.t := fun hk => if_pos hk
  have hL : e.k = 2 → (movE B R e).l = ixL B e.l := fun hk => if_pos hk
  have k1 := he.k1
  have k2 := he.k2
  have ht := he.t.1
  have hl := he.l.1
  obtain ⟨e', he'⟩ : ∃ e', e' = movE B R e := ⟨_, rfl⟩
  have hk' : e'.k = e.k := by rw [he']; rfl
  rw [← he'] at hA hT hL ⊢
  clear he' he
  unfold St.leave
  rw [hk']
  by_cases c1 : e.k = 1
  · have n1 : ¬ (e.k ≠ 1 ∧ (s.reg e.a).2 ≠ 0) := fun x => x.1 c1
    have n2 : ¬ (e.k ≠ 1 ∧ (t.reg e'.a).2 ≠ 0) := fun x => x.1 c1
    have n3 : ¬ e.k = 4 := by omega
    have n4 : ¬ e.k = 3 := by omega
    have p1 : e.k = 1 ∨ (s.reg e.a).1 ≠ 0 := .inl c1
    have p2 : e.k = 1 ∨ (t.reg e'.a).1 ≠ 0 := .inl c1
    rw [if_neg n1, if_neg n2, if_neg n3, if_neg n3, if_neg n4, if_neg n4, if_pos p1, if_pos p2, hT (.inl c1)]
    exact Sim.enter (h.seen _ _) (ht (by omega))
  have hA := hA c1
  rw [hA]
  by_cases c2 : (s.reg e.a).2 ≠ 0
  · have p1 : e.k ≠ 1 ∧ (s.reg e.a).2 ≠ 0 := ⟨c1, c2⟩
    rw [if_pos p1, if_pos p1]; exact h.trap M G _
  have n1 : ¬ (e.k ≠ 1 ∧ (s.reg e.a).2 ≠ 0) := fun x => c2 x.2
  rw [if_neg n1, if_neg n1]
  by_cases c3 : e.k = 4
  · rw [if_pos c3, if_pos c3]; exact h.trap M G _
  rw [if_neg c3, if_neg c3]
  by_cases c4 : e.k = 3
  · rw [if_pos c4, if_pos c4]
    exact { tl := h.tl, sl := h.sl, reg := h.reg, kept := h.kept, arrs := h.arrs, prints := h.prints, steps := h.steps, kind := rfl, val := rfl, bl := h.bl, pc := h.pc, sb := h.sb }
  rw [if_neg c4, if_neg c4]
  have c5 : e.k = 2 := by omega
  by_cases c6 : (s.reg e.a).1 ≠ 0
  · have p1 : e.k = 1 ∨ (s.reg e.a).1 ≠ 0 := .inr c6
    rw [if_pos p1, if_pos p1, hT (.inr c5)]
    exact Sim.enter (h.seen _ _) (ht (by omega))
  · have n2 : ¬ (e.k = 1 ∨ (s.reg e.a).1 ≠ 0) := fun x => x.elim c1 c6
    rw [if_neg n2, if_neg n2, hL c5]
    exact Sim.enter (h.seen _ _) (hl c5)
theorem getD_map (B R : List Int) (l : List OpI) (i : Nat) (h : i < l.length) : (l.map (movO B R)).getD i dOp = movO B R (l.getD i dOp) := by
  simp [List.getD_eq_getElem?_getD, List.getElem?_eq_getElem h]
theorem Sim.step (h : Sim B R U s t) (M : Mov B R U Y) (G : UnFine U) (hpc : s.pc ≤ (U.blocks.getD s.bl dBl).ops.length) : Sim B R U (s.step U) (t.step Y) := by
  have h1 : Sim B R U { s with steps := s.steps + 1 } { t with pc := s.pc, steps := t.steps + 1 } :=
    { tl := h.tl, sl := h.sl, reg := h.reg, kept := h.kept, arrs := h.arrs, prints := h.prints, steps := by show t.steps + 1 = s.steps + 1; rw [h.steps], kind := h.kind, val := h.val, bl := h.bl, pc := rfl, sb := h.sb }
  have hbf := G.bls _ (blk_mem h.sb)
  unfold St.step
  rw [M.block h]
  obtain ⟨b, hb⟩ : ∃ b, b = U.blocks.getD s.bl dBl := ⟨_, rfl⟩
  rw [← hb] at hbf hpc ⊢
  simp only
  have hl : (movB B R b).ops.length = b.ops.length := List.length_map ..
  rw [hl, h.pc]
  by_cases c : s.pc = b.ops.length
  · rw [if_pos c, if_pos c]
    exact h1.leave M G hbf.ed
  · rw [if_neg c, if_neg c]
    have hlt : s.pc < b.ops.length := by omega
    have e : (movB B R b).ops.getD s.pc dOp = movO B R (b.ops.getD s.pc dOp) := getD_map B R b.ops s.pc hlt
    rw [e]
    have hmem : b.ops.getD s.pc dOp ∈ b.ops := by
      rw [List.getD_eq_getElem?_getD, List.getElem?_eq_getElem hlt]; exact List.getElem_mem hlt
    obtain ⟨q1, q2⟩ := h1.doR M (hbf.ops _ hmem)
    rw [q2]
    split
    · exact q1.trap M G _
    · split
      · exact q1
      · exact { tl := q1.tl, sl := q1.sl, reg := q1.reg, kept := q1.kept, arrs := q1.arrs, prints := q1.prints, steps := q1.steps, kind := q1.kind, val := q1.val, bl := q1.bl, pc := by show _ + 1 = _ + 1; rw [q1.pc], sb := q1.sb }
theorem Sim.run (M : Mov B R U Y) (G : UnFine U) : ∀ (n : Nat) (s t : St), Sim B R U s t → StGood U s → s.steps + n ≤ 1000000000000 → Sim B R U (St.run U n s) (St.run Y n t)
  | 0, s, t, h, _, _ => h
  | n + 1, s, t, h, S, hn => by
    by_cases hk : s.kind = 0
    · have e1 : St.run U (n + 1) s = St.run U n (s.step U) := if_pos hk
      have e2 : St.run Y (n + 1) t = St.run Y n (t.step Y) := if_pos (by rw [h.kind]; exact hk)
      rw [e1, e2]
      exact Sim.run M G n _ _ (h.step M G S.pc) (S.step (fine_good G) (by omega)) (by rw [St.step_steps]; omega)
    · rw [St.run_stop U _ s hk, St.run_stop Y _ t (by rw [h.kind]; exact hk)]; exact h
/-- at the beginning -/
theorem regs0 (args : List Int) (m : Nat) (r : Int) (h0 : 0 ≤ r) : (args.map (fun x => (x, (0 : Int))) ++ List.replicate m (0, 0)).getD r.toNat (0, 0) = if r < args.length then (ixL args r, 0) else (0, 0) := by
  rw [List.getD_eq_getElem?_getD]
  by_cases h : r < args.length
  · rw [if_pos h, List.getElem?_append_left (by rw [List.length_map]; omega), List.getElem?_map]
    unfold ixL
    rw [List.getD_eq_getElem?_getD, List.getElem?_eq_getElem (by omega)]
    rfl
  · rw [if_neg h, List.getElem?_append_right (by rw [List.length_map]; omega), List.getElem?_replicate]
    split <;> rfl
theorem Sim.init (M : Mov B R U Y) (G : UnFine U) (args : List Int) (ha : (args.length : Int) = U.params) : Sim B R U (St.init U args) (St.init Y args) := by
  have hp := G.p3
  have hr1 := G.r1
  have hz : (((args.map (fun x => (x, (0 : Int))) ++ List.replicate (U.regs.toNat - args.length) (0, 0)).length : Nat) : Int) = U.regs := by
    rw [List.length_append, List.length_map, List.length_replicate]; omega
  have h0 : ixL B 0 = 0 := M.b0 0 ⟨Int.le_refl _, by decide⟩
  refine { tl := ?_, sl := ?_, reg := fun r hr => ?_, kept := ?_, arrs := ?_, prints := rfl, steps := rfl, kind := rfl, val := rfl, bl := ?_, pc := rfl, sb := G.nb }
  · show (((args.map (fun x => (x, (0 : Int))) ++ List.replicate (Y.regs.toNat - args.length) (0, 0)).length : Nat) : Int) = U.regs
    rw [M.re]; exact hz
  · exact hz
  · show (args.map (fun x => (x, (0 : Int))) ++ List.replicate (Y.regs.toNat - args.length) (0, 0)).getD (ixL R r).toNat (0, 0) = (args.map (fun x => (x, (0 : Int))) ++ List.replicate (U.regs.toNat - args.length) (0, 0)).getD r.toNat (0, 0)
    rw [regs0 _ _ _ hr.1, regs0 _ _ _ (M.r.rng _ hr).1]
    by_cases c : r < args.length
    · rw [M.rs r ⟨hr.1, by omega⟩]
    · rw [if_neg c]
      refine if_neg fun c2 => ?_
      have q := M.r.rng _ hr
      have h1 : inR (ixL R r) U.params := ⟨q.1, by omega⟩
      have := M.r.inj (ixL R r) r q hr (M.rs _ h1)
      omega
  · show List.replicate Y.spill.toNat (0, 0) = List.replicate U.spill.toNat (0, 0); rw [M.sp]
  · show Y.sizes.map _ = U.sizes.map _; rw [M.sz]
  · show 0 = (ixL B ((0 : Nat) : Int)).toNat
    rw [show ((0 : Nat) : Int) = 0 from rfl, h0]; rfl
end Go.Proofs.YtfkjkdoloamakaaDoor
