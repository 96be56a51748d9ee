/- An engine in memory, part two: what is appended to its ways; an engine that was reached from another world; the two layouts; what their cells hold. -/
import Derived.Test.YtfkjkdoloamakaaDoorRc
namespace Go.Proofs.YtfkjkdoloamakaaDoor
open Go.RowKit
variable {y : Lay} {F : Nat → Prop} {w w' : World} {p : Nat} {U : UnS} {s s' : St} {L : EngL}

/-- something has been appended to the ways: the world behind the append, and behind the store of the new slice -/
theorem Eng.newWays (hy : LayOk y) (h : Eng y F w p U s L) {w1 : World} {v : Value} {l : List Int} (hg : w.grownBy w1 L.vw.ownBlock) (ho : w1.ownsRow 0 3 1 v l.length (numV l)) (hv : v.ownBlock = L.vw.ownBlock ∨ ∃ k, v.ownBlock = some k ∧ w.heap.size ≤ k) : Eng y F (w1.setCell ⟨p, y.iW, none⟩ v) p U { s with ways := l } { L with vw := v } := by
  have hf0 : Fr (fun b => L.vw.ownBlock = some b) w w1 := Fr.of_grown hg fun k hk => hk
  have hf1 : Fr (fun b => L.vw.ownBlock = some b ∨ b = p) w (w1.setCell ⟨p, y.iW, none⟩ v) := (hf0.mono fun _ hi => .inl hi).setCell (p := ⟨p, y.iW, none⟩) (.inl (.inr rfl)) v
  have hp1 := h.blk.fr hf0 (own_blk_ne h.ways h.blk hy.t5.symm)
  have hb := hp1.set_ y.iW v
  rw [hy.vw] at hb
  have hcell : y.cells { L with vw := v } U { s with ways := l } = y.cells { L with vw := v } U s := hy.eq _ _ _ _ rfl rfl rfl rfl rfl rfl rfl rfl
  have ne : ∀ {b t cs}, Blk w b t cs → t ≠ 3 → t ≠ y.ty → ¬ (L.vw.ownBlock = some b ∨ b = p) := fun hB h1 h2 e => e.elim (own_blk_ne h.ways hB h1.symm) (h.blk.ne_ hB h2.symm).symm
  refine
    { blk := (by rw [hcell]; exact hb), regs := h.regs.fr hf1 (ne h.regs (by decide) hy.t1.symm), kept := h.kept.fr hf1 (ne h.kept (by decide) hy.t1.symm), seen := h.seen.fr hf1 (ne h.seen (by decide) hy.t2.symm),
      arrs := own_fr h.arrs hf1 fun k hk e => e.elim (own_own_ne h.arrs h.ways (by decide) k hk) (fun e => own_blk_ne h.arrs h.blk hy.t3.symm (by rw [hk, e])), ga := h.ga,
      inner := fun j hj => (h.inner j hj).fr hf1 (ne (h.inner j hj) (by decide) hy.t4.symm),
      prints := own_fr h.prints hf1 fun k hk e => e.elim (own_own_ne h.prints h.ways (by decide) k hk) (fun e => own_blk_ne h.prints h.blk hy.t4.symm (by rw [hk, e])), ways := own_far ho ?_ v,
      code := h.code.fr hf1 fun g hg e => h.away g hg (e.elim (fun e => .inr (.inr (.inr (.inr (.inr (.inr (.inl e))))))) .inl), rc := h.rc, ap := h.ap, aa := h.aa, away := ?_, flt := fun g hg => Nat.lt_of_lt_of_le (h.flt g hg) hf1.size }
  · intro e
    rcases hv with hv | ⟨k, hk, hlt⟩
    · rw [hv] at e; exact own_blk_ne h.ways h.blk hy.t5.symm e
    · rw [hk] at e; have := h.blk.lt; injection e with e; simp only at e; omega
  · intro g hgF hm
    rcases hm with hm | hm | hm | hm | hm | hm | hm | hm
    · exact h.away g hgF (.inl hm)
    · exact h.away g hgF (.inr (.inl hm))
    · exact h.away g hgF (.inr (.inr (.inl hm)))
    · exact h.away g hgF (.inr (.inr (.inr (.inl hm))))
    · exact h.away g hgF (.inr (.inr (.inr (.inr (.inl hm)))))
    · exact h.away g hgF (.inr (.inr (.inr (.inr (.inr (.inl hm))))))
    · rcases hv with hv | ⟨k, hk, hlt⟩
      · exact h.away g hgF (.inr (.inr (.inr (.inr (.inr (.inr (.inl (by rw [← hv]; exact hm))))))))
      · have e' : v.ownBlock = some g := hm
        rw [hk] at e'
        have := h.flt g hgF; injection e' with e'; omega
    · exact h.away g hgF (.inr (.inr (.inr (.inr (.inr (.inr (.inr hm)))))))

/-- An engine in w, which was reached from w0 by writing blocks of M0 and new ones alone. -/
structure EngQ (y : Lay) (F : Nat → Prop) (w0 : World) (M0 : Nat → Prop) (w : World) (p : Nat) (U : UnS) (s : St) (L : EngL) : Prop where
  e : Eng y F w p U s L
  f : Fr M0 w0 w
  m : ∀ b, L.M p b → M0 b ∨ w0.heap.size ≤ b
def EngX (y : Lay) (F : Nat → Prop) (w0 : World) (M0 : Nat → Prop) (w : World) (p : Nat) (U : UnS) (s : St) : Prop := ∃ L, EngQ y F w0 M0 w p U s L
variable {w0 : World} {M0 : Nat → Prop}
theorem EngQ.x (h : EngQ y F w0 M0 w p U s L) : EngX y F w0 M0 w p U s := ⟨L, h⟩
theorem Eng.q (h : Eng y F w p U s L) : EngQ y F w (L.M p) w p U s L := ⟨h, Fr.refl _ _, fun _ hb => .inl hb⟩
theorem EngQ.below (h : EngQ y F w0 M0 w p U s L) (hb : Below w.heap.size w w') : EngQ y F w0 M0 w' p U s L := ⟨h.e.below hb, h.f.then_ (Fr.of_below hb), h.m⟩
theorem EngQ.drewN (h : EngQ y F w0 M0 w p U s L) (n : Nat) : EngQ y F w0 M0 (w.drewN n) p U s L := ⟨h.e.drewN n, h.f.drewN n, h.m⟩
theorem EngQ.alloc (h : EngQ y F w0 M0 w p U s L) (o : Obj) : EngQ y F w0 M0 (w.alloc o) p U s L := ⟨h.e.alloc o, h.f.alloc o, h.m⟩
theorem EngQ.newP (hy : LayOk y) (h : EngQ y F w0 M0 w p U s L) (hf : Fr (fun b => b = p) w w') (hB : Blk w' p y.ty (y.cells L U s')) (e1 : s'.regs = s.regs) (e2 : s'.kept = s.kept) (e3 : s'.arrs = s.arrs) (e4 : s'.prints = s.prints) (e5 : s'.ways = s.ways) (e6 : s'.seen = s.seen) : EngQ y F w0 M0 w' p U s' L :=
  ⟨h.e.newP hy hf hB e1 e2 e3 e4 e5 e6, h.f.trans hf fun i hi => by subst hi; exact h.m _ (.inl rfl), h.m⟩
theorem EngQ.newReg (hy : LayOk y) (h : EngQ y F w0 M0 w p U s L) (r : Nat) (v : Int × Int) : EngQ y F w0 M0 ((w.setCell ⟨L.gr, r * 2, none⟩ (.int .i64 v.1)).setCell ⟨L.gr, r * 2 + 1, none⟩ (.int .i64 v.2)) p U { s with regs := s.regs.set r v } L :=
  ⟨h.e.newReg hy r v, h.f.trans (Fr.two _ _ _ _ _ _) fun i hi => by subst hi; exact h.m _ (.inr (.inl rfl)), h.m⟩
theorem EngQ.newKept (hy : LayOk y) (h : EngQ y F w0 M0 w p U s L) (r : Nat) (v : Int × Int) : EngQ y F w0 M0 ((w.setCell ⟨L.gc, r * 2, none⟩ (.int .i64 v.1)).setCell ⟨L.gc, r * 2 + 1, none⟩ (.int .i64 v.2)) p U { s with kept := s.kept.set r v } L :=
  ⟨h.e.newKept hy r v, h.f.trans (Fr.two _ _ _ _ _ _) fun i hi => by subst hi; exact h.m _ (.inr (.inr (.inl rfl))), h.m⟩
theorem EngQ.newSeen (hy : LayOk y) (h : EngQ y F w0 M0 w p U s L) (i : Nat) (u : Value) (l : List (Int × Int × Int)) (hl : l.length = s.seen.length) (e0 : (cntC s.seen).set i u = cntC l) : EngQ y F w0 M0 (w.setCell ⟨L.gs, i, none⟩ u) p U { s with seen := l } L :=
  ⟨h.e.newSeen hy i u l hl e0, h.f.trans (Fr.one _ _ _ _) fun i hi => by subst hi; exact h.m _ (.inr (.inr (.inr (.inl rfl)))), h.m⟩
theorem EngQ.newArr (hy : LayOk y) (h : EngQ y F w0 M0 w p U s L) (n i : Nat) (hn : n < s.arrs.length) (x : Int) : EngQ y F w0 M0 (w.setCell ⟨L.ga.getD n 0, i, none⟩ (.int .i64 x)) p U { s with arrs := s.arrs.modify n fun l => l.set i x } L :=
  ⟨h.e.newArr hy n i hn x, h.f.trans (Fr.one _ _ _ _) fun i hi => by subst hi; exact h.m _ (.inr (.inr (.inr (.inr (.inr (.inr (.inr (h.e.ga_at n hn)))))))), h.m⟩
theorem EngQ.newPrints (hy : LayOk y) (h : EngQ y F w0 M0 w p U s L) {w1 : World} {v : Value} {l : List Int} (hg : w.grownBy w1 L.vp.ownBlock) (ho : w1.ownsRow 0 2 1 v l.length (numV l)) (hv : v.ownBlock = L.vp.ownBlock ∨ ∃ k, v.ownBlock = some k ∧ w.heap.size ≤ k) : EngQ y F w0 M0 (w1.setCell ⟨p, y.iP, none⟩ v) p U { s with prints := l } { L with vp := v } := by
  refine ⟨h.e.newPrints hy hg ho hv, (h.f.trans (Fr.of_grown (M := fun b => L.vp.ownBlock = some b) hg fun k hk => hk) fun i hi => h.m _ (.inr (.inr (.inr (.inr (.inr (.inl hi))))))).setCell (p := ⟨p, y.iP, none⟩) (h.m _ (.inl rfl)) v, fun b hb => ?_⟩
  rcases hb with hb | hb | hb | hb | hb | hb | hb | hb
  · exact h.m b (.inl hb)
  · exact h.m b (.inr (.inl hb))
  · exact h.m b (.inr (.inr (.inl hb)))
  · exact h.m b (.inr (.inr (.inr (.inl hb))))
  · exact h.m b (.inr (.inr (.inr (.inr (.inl hb)))))
  · rcases hv with hv | ⟨k, hk, hlt⟩
    · exact h.m b (.inr (.inr (.inr (.inr (.inr (.inl (by rw [← hv]; exact hb)))))))
    · have e' : v.ownBlock = some b := hb
      rw [hk] at e'; injection e' with e'; have := h.f.size; exact .inr (by omega)
  · exact h.m b (.inr (.inr (.inr (.inr (.inr (.inr (.inl hb)))))))
  · exact h.m b (.inr (.inr (.inr (.inr (.inr (.inr (.inr hb)))))))
theorem EngQ.newWays (hy : LayOk y) (h : EngQ y F w0 M0 w p U s L) {w1 : World} {v : Value} {l : List Int} (hg : w.grownBy w1 L.vw.ownBlock) (ho : w1.ownsRow 0 3 1 v l.length (numV l)) (hv : v.ownBlock = L.vw.ownBlock ∨ ∃ k, v.ownBlock = some k ∧ w.heap.size ≤ k) : EngQ y F w0 M0 (w1.setCell ⟨p, y.iW, none⟩ v) p U { s with ways := l } { L with vw := v } := by
  refine ⟨h.e.newWays hy hg ho hv, (h.f.trans (Fr.of_grown (M := fun b => L.vw.ownBlock = some b) hg fun k hk => hk) fun i hi => h.m _ (.inr (.inr (.inr (.inr (.inr (.inr (.inl hi)))))))).setCell (p := ⟨p, y.iW, none⟩) (h.m _ (.inl rfl)) v, fun b hb => ?_⟩
  rcases hb with hb | hb | hb | hb | hb | hb | hb | hb
  · exact h.m b (.inl hb)
  · exact h.m b (.inr (.inl hb))
  · exact h.m b (.inr (.inr (.inl hb)))
  · exact h.m b (.inr (.inr (.inr (.inl hb))))
  · exact h.m b (.inr (.inr (.inr (.inr (.inl hb)))))
  · exact h.m b (.inr (.inr (.inr (.inr (.inr (.inl hb))))))
  · rcases hv with hv | ⟨k, hk, hlt⟩
    · exact h.m b (.inr (.inr (.inr (.inr (.inr (.inr (.inl (by rw [← hv]; exact hb))))))))
    · have e' : v.ownBlock = some b := hb
      rw [hk] at e'; injection e' with e'; have := h.f.size; exact .inr (by omega)
  · exact h.m b (.inr (.inr (.inr (.inr (.inr (.inr (.inr hb)))))))

theorem Eng.blk_ways (hy : LayOk y) (h : Eng y F w p U s L) {w1 : World} (hg : w.grownBy w1 L.vw.ownBlock) : Blk w1 p y.ty (y.cells L U s) :=
  h.blk.fr (Fr.of_grown (M := fun b => L.vw.ownBlock = some b) hg fun _ hk => hk) (own_blk_ne h.ways h.blk hy.t5.symm)
theorem Eng.blk_prints (hy : LayOk y) (h : Eng y F w p U s L) {w1 : World} (hg : w.grownBy w1 L.vp.ownBlock) : Blk w1 p y.ty (y.cells L U s) :=
  h.blk.fr (Fr.of_grown (M := fun b => L.vp.ownBlock = some b) hg fun _ hk => hk) (own_blk_ne h.prints h.blk hy.t4.symm)

/-! ### the program's layout -/
def layP : Lay where
  ty := 83
  cells L U s := #[L.us, .int .i64 U.params, .int .i64 U.regs, .int .i64 U.code, .int .i64 U.spill, L.ub, ownRow L.gr s.regs.length, ownRow L.gc s.kept.length, L.va, L.vp, .int .i64 s.bl, .int .i64 s.pc, .int .i64 s.steps, .int .i64 s.kind, .int .i64 s.val, L.vw, ownRow L.gs s.seen.length]
  iP := 9
  iW := 15
  iA := 8
theorem okP : LayOk layP where
  eq := by intro L U s s' h1 h2 h3 h4 h5 h6 h7 h8; simp only [layP, h1, h2, h3, h4, h5, h6, h7, h8]
  vp := fun _ _ _ _ => rfl
  vw := fun _ _ _ _ => rfl
  va := fun _ _ _ _ _ => rfl
  t1 := by decide
  t2 := by decide
  t3 := by decide
  t4 := by decide
  t5 := by decide
section
variable (h : Eng layP F w p U s L)
include h
theorem P0 : w.cell? ⟨p, 0, none⟩ = some L.us := (h.blk.cell 0).trans rfl
theorem P1 : w.cell? ⟨p, 1, none⟩ = some (.int .i64 U.params) := (h.blk.cell 1).trans rfl
theorem P2 : w.cell? ⟨p, 2, none⟩ = some (.int .i64 U.regs) := (h.blk.cell 2).trans rfl
theorem P3 : w.cell? ⟨p, 3, none⟩ = some (.int .i64 U.code) := (h.blk.cell 3).trans rfl
theorem P4 : w.cell? ⟨p, 4, none⟩ = some (.int .i64 U.spill) := (h.blk.cell 4).trans rfl
theorem P5 : w.cell? ⟨p, 5, none⟩ = some L.ub := (h.blk.cell 5).trans rfl
theorem P6 : w.cell? ⟨p, 6, none⟩ = some (.slice (some ⟨L.gr, 0, none⟩) s.regs.length s.regs.length) := (h.blk.cell 6).trans rfl
theorem P7 : w.cell? ⟨p, 7, none⟩ = some (.slice (some ⟨L.gc, 0, none⟩) s.kept.length s.kept.length) := (h.blk.cell 7).trans rfl
theorem P8 : w.cell? ⟨p, 8, none⟩ = some L.va := (h.blk.cell 8).trans rfl
theorem P9 : w.cell? ⟨p, 9, none⟩ = some L.vp := (h.blk.cell 9).trans rfl
theorem P10 : w.cell? ⟨p, 10, none⟩ = some (.int .i64 s.bl) := (h.blk.cell 10).trans rfl
theorem P11 : w.cell? ⟨p, 11, none⟩ = some (.int .i64 s.pc) := (h.blk.cell 11).trans rfl
theorem P12 : w.cell? ⟨p, 12, none⟩ = some (.int .i64 s.steps) := (h.blk.cell 12).trans rfl
theorem P13 : w.cell? ⟨p, 13, none⟩ = some (.int .i64 s.kind) := (h.blk.cell 13).trans rfl
theorem P14 : w.cell? ⟨p, 14, none⟩ = some (.int .i64 s.val) := (h.blk.cell 14).trans rfl
theorem P15 : w.cell? ⟨p, 15, none⟩ = some L.vw := (h.blk.cell 15).trans rfl
theorem P16 : w.cell? ⟨p, 16, none⟩ = some (.slice (some ⟨L.gs, 0, none⟩) s.seen.length s.seen.length) := (h.blk.cell 16).trans rfl
end
/-! ### what is read of an engine's rows -/
theorem reg_at (s : St) {r : Int} (h0 : 0 ≤ r) (h1 : r < s.regs.length) : s.reg r = s.regs[r.toNat]'(by omega) := by
  unfold St.reg; rw [List.getD_eq_getElem?_getD, List.getElem?_eq_getElem (by omega)]; rfl
section
variable (h : Eng y F w p U s L)
include h
theorem reg0 {r : Int} (h0 : 0 ≤ r) (h1 : r < s.regs.length) : w.cell? ⟨L.gr, r.toNat * 2, none⟩ = some (.int .i64 (s.reg r).1) := by
  rw [h.regs.cell, List.getElem?_toArray, reg_at s h0 h1, valC_0]
theorem reg1 {r : Int} (h0 : 0 ≤ r) (h1 : r < s.regs.length) : w.cell? ⟨L.gr, r.toNat * 2 + 1, none⟩ = some (.int .i64 (s.reg r).2) := by
  rw [h.regs.cell, List.getElem?_toArray, reg_at s h0 h1, valC_1]
theorem kept0 {r : Int} (h0 : 0 ≤ r) (h1 : r < s.kept.length) : w.cell? ⟨L.gc, r.toNat * 2, none⟩ = some (.int .i64 (s.kept.getD r.toNat (0, 0)).1) := by
  rw [h.kept.cell, List.getElem?_toArray, valC_0 s.kept r.toNat (by omega), List.getD_eq_getElem?_getD, List.getElem?_eq_getElem (by omega)]; rfl
theorem kept1 {r : Int} (h0 : 0 ≤ r) (h1 : r < s.kept.length) : w.cell? ⟨L.gc, r.toNat * 2 + 1, none⟩ = some (.int .i64 (s.kept.getD r.toNat (0, 0)).2) := by
  rw [h.kept.cell, List.getElem?_toArray, valC_1 s.kept r.toNat (by omega), List.getD_eq_getElem?_getD, List.getElem?_eq_getElem (by omega)]; rfl
end
end Go.Proofs.YtfkjkdoloamakaaDoor
