/- An engine in memory: its block, its rows, its unit; what writing one of them makes of the state that it holds. For the program's Engine and the specification's alike: the layout of the block is a parameter. -/
import Derived.Test.YtfkjkdoloamakaaDoorRb
namespace Go.Proofs.YtfkjkdoloamakaaDoor
open Go.RowKit

/-! ### a unit in memory that is read -/
/-- A slice of n elements of that many cells, which lie in a block of F. -/
def Row (F : Nat → Prop) (w : World) (v : Value) (n size : Nat) (xs : List Value) : Prop :=
  xs.length = n * size ∧ ∃ A c, v = .slice A n c ∧ n ≤ c ∧ c ≤ maxLen ∧ (0 < n → ∃ g o, A = some ⟨g, o, none⟩ ∧ F g ∧ g < w.heap.size ∧ ∀ j u, xs[j]? = some u → w.cell? ⟨g, o + j, none⟩ = some u)
def opC (o : OpI) : List Value := [.int .i64 o.k, .int .i64 o.d, .int .i64 o.a, .int .i64 o.b, .int .i64 o.c, .int .i64 o.n, .int .i64 o.g]
def edC (e : EdS) : List Value := [.int .i64 e.k, .int .i64 e.a, .int .i64 e.t, .int .i64 e.l]
def edV (e : EdS) : Value := .agg #[.int .i64 e.k, .int .i64 e.a, .int .i64 e.t, .int .i64 e.l]
def opsC : List OpI → List Value
  | [] => []
  | o :: r => opC o ++ opsC r
def blsC : List Value → List BlkS → List Value
  | v :: vs, b :: r => (v :: edC b.ed ++ [.int .i64 b.ct]) ++ blsC vs r
  | _, _ => []
def numV (l : List Int) : List Value := l.map (Value.int .i64)
/-- the blocks of a unit, read -/
def RdBlocks (F : Nat → Prop) (w : World) (vb : Value) (bs : List BlkS) : Prop :=
  ∃ vs : List Value, vs.length = bs.length ∧ Row F w vb bs.length 6 (blsC vs bs) ∧ ∀ i (h : i < bs.length), Row F w (vs.getD i .nilFunc) (bs[i]).ops.length 7 (opsC (bs[i]).ops)

theorem Row.fr {F M : Nat → Prop} {w w' : World} {v : Value} {n size : Nat} {xs : List Value} (h : Row F w v n size xs) (hf : Fr M w w') (hn : ∀ g, F g → ¬ M g) : Row F w' v n size xs := by
  obtain ⟨h0, A, c, e, hc, hm, h1⟩ := h
  refine ⟨h0, A, c, e, hc, hm, fun hp => ?_⟩
  obtain ⟨g, o, ea, hF, hlt, hh⟩ := h1 hp
  exact ⟨g, o, ea, hF, Nat.lt_of_lt_of_le hlt hf.size, fun j u hu => hf.cell (hh j u hu) (hn g hF)⟩
theorem Row.mono {F F' : Nat → Prop} {w : World} {v : Value} {n size : Nat} {xs : List Value} (h : Row F w v n size xs) (hn : ∀ g, F g → g < w.heap.size → F' g) : Row F' w v n size xs := by
  obtain ⟨h0, A, c, e, hc, hm, h1⟩ := h
  refine ⟨h0, A, c, e, hc, hm, fun hp => ?_⟩
  obtain ⟨g, o, ea, hF, hlt, hh⟩ := h1 hp
  exact ⟨g, o, ea, hn g hF hlt, hlt, hh⟩
theorem RdBlocks.fr {F M : Nat → Prop} {w w' : World} {vb : Value} {bs : List BlkS} (h : RdBlocks F w vb bs) (hf : Fr M w w') (hn : ∀ g, F g → ¬ M g) : RdBlocks F w' vb bs := by
  obtain ⟨vs, h0, h1, h2⟩ := h
  exact ⟨vs, h0, h1.fr hf hn, fun i hi => (h2 i hi).fr hf hn⟩
theorem RdBlocks.mono {F F' : Nat → Prop} {w : World} {vb : Value} {bs : List BlkS} (h : RdBlocks F w vb bs) (hn : ∀ g, F g → g < w.heap.size → F' g) : RdBlocks F' w vb bs := by
  obtain ⟨vs, h0, h1, h2⟩ := h
  exact ⟨vs, h0, h1.mono hn, fun i hi => (h2 i hi).mono hn⟩

theorem opsC_length : ∀ l : List OpI, (opsC l).length = l.length * 7
  | [] => rfl
  | o :: r => by simp [opsC, opC, opsC_length r]; omega
theorem blsC_length : ∀ (vs : List Value) (l : List BlkS), vs.length = l.length → (blsC vs l).length = l.length * 6
  | [], [], _ => rfl
  | v :: vs, b :: r, h => by
    have := blsC_length vs r (by simpa using h)
    simp [blsC, edC, this]; omega
theorem opsC_at : ∀ (l : List OpI) (i : Nat) (_ : i < l.length) (j : Nat) (_ : j < 7), (opsC l)[i * 7 + j]? = (opC (l.getD i dOp))[j]?
  | o :: r, 0, _, j, hj => by
    simp only [opsC, Nat.zero_mul, Nat.zero_add, List.getD_cons_zero]
    rw [List.getElem?_append_left (by simpa [opC] using hj)]
  | o :: r, i + 1, h, j, hj => by
    simp only [opsC, List.getD_cons_succ]
    rw [List.getElem?_append_right (by simp [opC]; omega), show (i + 1) * 7 + j - (opC o).length = i * 7 + j by simp [opC]; omega]
    exact opsC_at r i (by simpa using h) j hj
theorem blsC_at : ∀ (vs : List Value) (l : List BlkS) (_ : vs.length = l.length) (i : Nat) (_ : i < l.length) (j : Nat) (_ : j < 6), (blsC vs l)[i * 6 + j]? = (vs.getD i .nilFunc :: edC (l.getD i dBl).ed ++ [.int .i64 (l.getD i dBl).ct])[j]?
  | [], [], _, i, hi, _, _ => absurd hi (by simp)
  | [], _ :: _, h, _, _, _, _ => by simp at h
  | _ :: _, [], h, _, _, _, _ => by simp at h
  | v :: vs, b :: r, _, 0, _, j, hj => by
    simp only [blsC, Nat.zero_mul, Nat.zero_add, List.getD_cons_zero]
    rw [List.getElem?_append_left (by simpa [edC] using hj)]
  | v :: vs, b :: r, h, i + 1, hi, j, hj => by
    simp only [blsC, List.getD_cons_succ]
    rw [List.getElem?_append_right (by simp [edC]; omega), show (i + 1) * 6 + j - (v :: edC b.ed ++ [Value.int .i64 b.ct]).length = i * 6 + j by simp [edC]; omega]
    exact blsC_at vs r (by simpa using h) i (by simpa using hi) j hj

theorem Fr.one (w : World) (g i : Nat) (u : Value) : Fr (fun b => b = g) w (w.setCell ⟨g, i, none⟩ u) := Fr.setCell (M := fun b => b = g) (p := ⟨g, i, none⟩) (Fr.refl _ w) (.inl rfl) u
theorem Fr.two (w : World) (g i j : Nat) (u v : Value) : Fr (fun b => b = g) w ((w.setCell ⟨g, i, none⟩ u).setCell ⟨g, j, none⟩ v) := Fr.setCell (M := fun b => b = g) (p := ⟨g, j, none⟩) (Fr.one w g i u) (.inl rfl) v

/-! ### an engine -/
structure EngL where
  us : Value
  ub : Value
  va : Value
  vp : Value
  vw : Value
  gr : Nat
  gc : Nat
  gs : Nat
  ga : List Nat
/-- how an engine's block is laid out -/
structure Lay where
  ty : TypeId
  cells : EngL → UnS → St → Array Value
  iP : Nat
  iW : Nat
  iA : Nat
def ownRow (g n : Nat) : Value := .slice (some ⟨g, 0, none⟩) n n
structure LayOk (y : Lay) : Prop where
  eq : ∀ (L : EngL) (U : UnS) (s s' : St), s'.regs.length = s.regs.length → s'.kept.length = s.kept.length → s'.seen.length = s.seen.length → s'.bl = s.bl → s'.pc = s.pc → s'.steps = s.steps → s'.kind = s.kind → s'.val = s.val → y.cells L U s' = y.cells L U s
  vp : ∀ (L : EngL) (U : UnS) (s : St) (v : Value), (y.cells L U s).setIfInBounds y.iP v = y.cells { L with vp := v } U s
  vw : ∀ (L : EngL) (U : UnS) (s : St) (v : Value), (y.cells L U s).setIfInBounds y.iW v = y.cells { L with vw := v } U s
  va : ∀ (L : EngL) (U : UnS) (s : St) (v : Value) (g : Nat), (y.cells L U s).setIfInBounds y.iA v = y.cells { L with va := v, ga := L.ga ++ [g] } U s
  t1 : y.ty ≠ 85
  t2 : y.ty ≠ 68
  t3 : y.ty ≠ 26
  t4 : y.ty ≠ 2
  t5 : y.ty ≠ 3
/-- the inner arrays' slices -/
def arrV : List Nat → List (List Int) → List Value
  | g :: gs, l :: ls => ownRow g l.length :: arrV gs ls
  | _, _ => []
/-- the blocks that an engine writes -/
def EngL.M (L : EngL) (p : Nat) (b : Nat) : Prop := b = p ∨ b = L.gr ∨ b = L.gc ∨ b = L.gs ∨ L.va.ownBlock = some b ∨ L.vp.ownBlock = some b ∨ L.vw.ownBlock = some b ∨ b ∈ L.ga
structure Eng (y : Lay) (F : Nat → Prop) (w : World) (p : Nat) (U : UnS) (s : St) (L : EngL) : Prop where
  blk : Blk w p y.ty (y.cells L U s)
  regs : Blk w L.gr 85 (valC s.regs).toArray
  kept : Blk w L.gc 85 (valC s.kept).toArray
  seen : Blk w L.gs 68 (cntC s.seen).toArray
  arrs : w.ownsRow 0 26 1 L.va s.arrs.length (arrV L.ga s.arrs)
  ga : L.ga.length = s.arrs.length
  inner : ∀ j (h : j < s.arrs.length), Blk w (L.ga.getD j 0) 2 (numV (s.arrs[j])).toArray
  prints : w.ownsRow 0 2 1 L.vp s.prints.length (numV s.prints)
  ways : w.ownsRow 0 3 1 L.vw s.ways.length (numV s.ways)
  code : RdBlocks F w L.ub U.blocks
  rc : L.gr ≠ L.gc
  ap : ∀ g ∈ L.ga, L.vp.ownBlock ≠ some g
  aa : L.ga.Nodup
  away : ∀ g, F g → ¬ L.M p g
  flt : ∀ g, F g → g < w.heap.size

variable {y : Lay} {F : Nat → Prop} {w w' : World} {p : Nat} {U : UnS} {s s' : St} {L : EngL}

theorem Eng.ga_mem (h : Eng y F w p U s L) {g : Nat} (hg : g ∈ L.ga) : ∃ cs, Blk w g 2 cs := by
  obtain ⟨j, hj, rfl⟩ := List.getElem_of_mem hg
  have := h.inner j (by rw [← h.ga]; exact hj)
  rw [List.getD_eq_getElem?_getD, List.getElem?_eq_getElem hj] at this
  exact ⟨_, this⟩
theorem Eng.ga_at (h : Eng y F w p U s L) (j : Nat) (hj : j < s.arrs.length) : L.ga.getD j 0 ∈ L.ga := by
  have hj' : j < L.ga.length := by rw [h.ga]; exact hj
  rw [List.getD_eq_getElem?_getD, List.getElem?_eq_getElem hj']
  exact List.getElem_mem hj'
/-- what leaves all of an engine's blocks alone leaves the engine -/
theorem Eng.fr {M : Nat → Prop} (h : Eng y F w p U s L) (hf : Fr M w w') (hn : ∀ b, L.M p b → ¬ M b) (hF : ∀ g, F g → ¬ M g) : Eng y F w' p U s L :=
    { blk := h.blk.fr hf (hn _ (.inl rfl)), regs := h.regs.fr hf (hn _ (.inr (.inl rfl))), kept := h.kept.fr hf (hn _ (.inr (.inr (.inl rfl)))), seen := h.seen.fr hf (hn _ (.inr (.inr (.inr (.inl rfl))))),
      arrs := own_fr h.arrs hf fun _ hk => hn _ (.inr (.inr (.inr (.inr (.inl hk))))), ga := h.ga,
      inner := fun j hj => (h.inner j hj).fr hf (hn _ (.inr (.inr (.inr (.inr (.inr (.inr (.inr (h.ga_at j hj))))))))),
      prints := own_fr h.prints hf fun _ hk => hn _ (.inr (.inr (.inr (.inr (.inr (.inl hk)))))), ways := own_fr h.ways hf fun _ hk => hn _ (.inr (.inr (.inr (.inr (.inr (.inr (.inl hk))))))),
      code := h.code.fr hf hF, rc := h.rc, ap := h.ap, aa := h.aa, away := h.away, flt := fun g hg => Nat.lt_of_lt_of_le (h.flt g hg) hf.size }
theorem Eng.below (h : Eng y F w p U s L) (hb : Below w.heap.size w w') : Eng y F w' p U s L :=
  h.fr (M := fun _ => False) (Fr.of_below hb) (fun _ _ => not_false) (fun _ _ => not_false)
theorem Eng.drewN (h : Eng y F w p U s L) (n : Nat) : Eng y F (w.drewN n) p U s L := h.fr (M := fun _ => False) ((Fr.refl _ w).drewN n) (fun _ _ => not_false) (fun _ _ => not_false)
theorem Eng.alloc (h : Eng y F w p U s L) (o : Obj) : Eng y F (w.alloc o) p U s L := h.fr (M := fun _ => False) ((Fr.refl _ w).alloc o) (fun _ _ => not_false) (fun _ _ => not_false)
/-- an engine's blocks are blocks of the world -/
theorem Eng.lt (h : Eng y F w p U s L) (b : Nat) (hb : L.M p b) : b < w.heap.size := by
  rcases hb with rfl | rfl | rfl | rfl | hb | hb | hb | hb
  · exact h.blk.lt
  · exact h.regs.lt
  · exact h.kept.lt
  · exact h.seen.lt
  · exact (h.arrs.lt b hb).2
  · exact (h.prints.lt b hb).2
  · exact (h.ways.lt b hb).2
  · obtain ⟨cs, hc⟩ := h.ga_mem hb; exact hc.lt

/-- the engine's block alone has been written -/
theorem Eng.newP (hy : LayOk y) (h : Eng y F w p U s L) (hf : Fr (fun b => b = p) w w') (hB : Blk w' p y.ty (y.cells L U s')) (e1 : s'.regs = s.regs) (e2 : s'.kept = s.kept) (e3 : s'.arrs = s.arrs) (e4 : s'.prints = s.prints) (e5 : s'.ways = s.ways) (e6 : s'.seen = s.seen) : Eng y F w' p U s' L :=
    { blk := hB, regs := (by rw [e1]; exact h.regs.fr hf (h.blk.ne_ h.regs hy.t1).symm), kept := (by rw [e2]; exact h.kept.fr hf (h.blk.ne_ h.kept hy.t1).symm), seen := (by rw [e6]; exact h.seen.fr hf (h.blk.ne_ h.seen hy.t2).symm),
      arrs := (by rw [e3]; exact own_fr h.arrs hf fun k hk e => own_blk_ne h.arrs h.blk hy.t3.symm (by rw [hk, e])), ga := (by rw [e3]; exact h.ga),
      inner := (by rw [e3]; exact fun j hj => (h.inner j hj).fr hf (h.blk.ne_ (h.inner j hj) hy.t4).symm),
      prints := (by rw [e4]; exact own_fr h.prints hf fun k hk e => own_blk_ne h.prints h.blk hy.t4.symm (by rw [hk, e])), ways := (by rw [e5]; exact own_fr h.ways hf fun k hk e => own_blk_ne h.ways h.blk hy.t5.symm (by rw [hk, e])),
      code := h.code.fr hf fun g hg e => h.away g hg (.inl e), rc := h.rc, ap := h.ap, aa := h.aa, away := h.away, flt := fun g hg => Nat.lt_of_lt_of_le (h.flt g hg) hf.size }

/-- a register has been written -/
theorem Eng.newReg (hy : LayOk y) (h : Eng y F w p U s L) (r : Nat) (v : Int × Int) : Eng y F ((w.setCell ⟨L.gr, r * 2, none⟩ (.int .i64 v.1)).setCell ⟨L.gr, r * 2 + 1, none⟩ (.int .i64 v.2)) p U { s with regs := s.regs.set r v } L := by
  have hf : Fr (fun b => b = L.gr) w ((w.setCell ⟨L.gr, r * 2, none⟩ (.int .i64 v.1)).setCell ⟨L.gr, r * 2 + 1, none⟩ (.int .i64 v.2)) := Fr.two _ _ _ _ _ _
  have e : y.cells L U { s with regs := s.regs.set r v } = y.cells L U s := hy.eq _ _ _ _ (by simp) rfl rfl rfl rfl rfl rfl rfl
  refine
    { blk := (by rw [e]; exact h.blk.fr hf (h.blk.ne_ h.regs hy.t1)), regs := ?_, kept := h.kept.fr hf h.rc.symm, seen := h.seen.fr hf (h.seen.ne_ h.regs (by decide)),
      arrs := own_fr h.arrs hf fun k hk e => own_blk_ne h.arrs h.regs (by decide) (by rw [hk, e]), ga := h.ga,
      inner := fun j hj => (h.inner j hj).fr hf ((h.inner j hj).ne_ h.regs (by decide)),
      prints := own_fr h.prints hf fun k hk e => own_blk_ne h.prints h.regs (by decide) (by rw [hk, e]), ways := own_fr h.ways hf fun k hk e => own_blk_ne h.ways h.regs (by decide) (by rw [hk, e]),
      code := h.code.fr hf fun g hg e => h.away g hg (.inr (.inl e)), rc := h.rc, ap := h.ap, aa := h.aa, away := h.away, flt := fun g hg => Nat.lt_of_lt_of_le (h.flt g hg) hf.size }
  have hb := (h.regs.set_ (r * 2) (.int .i64 v.1)).set_ (r * 2 + 1) (.int .i64 v.2)
  simp only [List.setIfInBounds_toArray] at hb
  rw [valC_set s.regs r v] at hb
  exact hb
theorem Eng.newKept (hy : LayOk y) (h : Eng y F w p U s L) (r : Nat) (v : Int × Int) : Eng y F ((w.setCell ⟨L.gc, r * 2, none⟩ (.int .i64 v.1)).setCell ⟨L.gc, r * 2 + 1, none⟩ (.int .i64 v.2)) p U { s with kept := s.kept.set r v } L := by
  have hf : Fr (fun b => b = L.gc) w ((w.setCell ⟨L.gc, r * 2, none⟩ (.int .i64 v.1)).setCell ⟨L.gc, r * 2 + 1, none⟩ (.int .i64 v.2)) := Fr.two _ _ _ _ _ _
  have e : y.cells L U { s with kept := s.kept.set r v } = y.cells L U s := hy.eq _ _ _ _ rfl (by simp) rfl rfl rfl rfl rfl rfl
  refine
    { blk := (by rw [e]; exact h.blk.fr hf (h.blk.ne_ h.kept hy.t1)), regs := h.regs.fr hf h.rc, kept := ?_, seen := h.seen.fr hf (h.seen.ne_ h.kept (by decide)),
      arrs := own_fr h.arrs hf fun k hk e => own_blk_ne h.arrs h.kept (by decide) (by rw [hk, e]), ga := h.ga,
      inner := fun j hj => (h.inner j hj).fr hf ((h.inner j hj).ne_ h.kept (by decide)),
      prints := own_fr h.prints hf fun k hk e => own_blk_ne h.prints h.kept (by decide) (by rw [hk, e]), ways := own_fr h.ways hf fun k hk e => own_blk_ne h.ways h.kept (by decide) (by rw [hk, e]),
      code := h.code.fr hf fun g hg e => h.away g hg (.inr (.inr (.inl e))), rc := h.rc, ap := h.ap, aa := h.aa, away := h.away, flt := fun g hg => Nat.lt_of_lt_of_le (h.flt g hg) hf.size }
  have hb := (h.kept.set_ (r * 2) (.int .i64 v.1)).set_ (r * 2 + 1) (.int .i64 v.2)
  simp only [List.setIfInBounds_toArray] at hb
  rw [valC_set s.kept r v] at hb
  exact hb
/-- a count has been written: the row of counts -/
theorem Eng.newSeen (hy : LayOk y) (h : Eng y F w p U s L) (i : Nat) (u : Value) (l : List (Int × Int × Int)) (hl : l.length = s.seen.length) (e0 : (cntC s.seen).set i u = cntC l) : Eng y F (w.setCell ⟨L.gs, i, none⟩ u) p U { s with seen := l } L := by
  have hf : Fr (fun b => b = L.gs) w (w.setCell ⟨L.gs, i, none⟩ u) := Fr.one _ _ _ _
  have e : y.cells L U { s with seen := l } = y.cells L U s := hy.eq _ _ _ _ rfl rfl hl rfl rfl rfl rfl rfl
  refine
    { blk := (by rw [e]; exact h.blk.fr hf (h.blk.ne_ h.seen hy.t2)), regs := h.regs.fr hf (h.regs.ne_ h.seen (by decide)), kept := h.kept.fr hf (h.kept.ne_ h.seen (by decide)), seen := ?_,
      arrs := own_fr h.arrs hf fun k hk e => own_blk_ne h.arrs h.seen (by decide) (by rw [hk, e]), ga := h.ga,
      inner := fun j hj => (h.inner j hj).fr hf ((h.inner j hj).ne_ h.seen (by decide)),
      prints := own_fr h.prints hf fun k hk e => own_blk_ne h.prints h.seen (by decide) (by rw [hk, e]), ways := own_fr h.ways hf fun k hk e => own_blk_ne h.ways h.seen (by decide) (by rw [hk, e]),
      code := h.code.fr hf fun g hg e => h.away g hg (.inr (.inr (.inr (.inl e)))), rc := h.rc, ap := h.ap, aa := h.aa, away := h.away, flt := fun g hg => Nat.lt_of_lt_of_le (h.flt g hg) hf.size }
  have hb := h.seen.set_ i u
  simp only [List.setIfInBounds_toArray] at hb
  rw [e0] at hb
  exact hb
theorem arrV_modify : ∀ (gs : List Nat) (ls : List (List Int)) (n : Nat) (f : List Int → List Int) (_ : ∀ l, (f l).length = l.length), arrV gs (ls.modify n f) = arrV gs ls
  | [], ls, n, f, _ => by cases h : ls.modify n f <;> cases ls <;> simp [arrV]
  | g :: gs, [], n, f, _ => by simp [arrV]
  | g :: gs, l :: ls, 0, f, hf => by simp [arrV, hf]
  | g :: gs, l :: ls, n + 1, f, hf => by simp [arrV, arrV_modify gs ls n f hf]
theorem numV_set (l : List Int) (i : Nat) (x : Int) : (numV l).set i (.int .i64 x) = numV (l.set i x) := by simp [numV, List.map_set]
/-- an element of an array has been written -/
theorem Eng.newArr (hy : LayOk y) (h : Eng y F w p U s L) (n i : Nat) (hn : n < s.arrs.length) (x : Int) : Eng y F (w.setCell ⟨L.ga.getD n 0, i, none⟩ (.int .i64 x)) p U { s with arrs := s.arrs.modify n fun l => l.set i x } L := by
  obtain ⟨g, hg⟩ : ∃ g, g = L.ga.getD n 0 := ⟨_, rfl⟩
  have hm : g ∈ L.ga := by rw [hg]; exact h.ga_at n hn
  have hG : Blk w g 2 (numV (s.arrs[n])).toArray := by rw [hg]; exact h.inner n hn
  rw [← hg]
  have hf : Fr (fun b => b = g) w (w.setCell ⟨g, i, none⟩ (.int .i64 x)) := Fr.one _ _ _ _
  have e : y.cells L U { s with arrs := s.arrs.modify n fun l => l.set i x } = y.cells L U s := hy.eq _ _ _ _ rfl rfl rfl rfl rfl rfl rfl rfl
  refine
    { blk := (by rw [e]; exact h.blk.fr hf (h.blk.ne_ hG hy.t4)), regs := h.regs.fr hf (h.regs.ne_ hG (by decide)), kept := h.kept.fr hf (h.kept.ne_ hG (by decide)), seen := h.seen.fr hf (h.seen.ne_ hG (by decide)),
      arrs := ?_, ga := by simpa using h.ga,
      inner := ?_,
      prints := own_fr h.prints hf fun k hk e => h.ap g hm (by rw [hk, e]), ways := own_fr h.ways hf fun k hk e => own_blk_ne h.ways hG (by decide) (by rw [hk, e]),
      code := h.code.fr hf fun g' hg' e => h.away g' hg' (.inr (.inr (.inr (.inr (.inr (.inr (.inr (e ▸ hm)))))))), rc := h.rc, ap := h.ap, aa := h.aa, away := h.away, flt := fun g hg => Nat.lt_of_lt_of_le (h.flt g hg) hf.size }
  · have := own_fr h.arrs hf fun k hk e => own_blk_ne h.arrs hG (by decide) (by rw [hk, e])
    simp only [List.length_modify]
    rw [arrV_modify _ _ _ _ (fun l => by simp)]
    exact this
  · intro j hj
    have hj' : j < s.arrs.length := by simpa using hj
    by_cases hjn : j = n
    · subst hjn
      rw [← hg]
      have hb := hG.set_ i (.int .i64 x)
      simp only [List.setIfInBounds_toArray] at hb
      rw [numV_set] at hb
      simpa using hb
    · have hne : L.ga.getD j 0 ≠ g := by
        intro ee
        have h1 : j < L.ga.length := by rw [h.ga]; exact hj'
        have h2 : n < L.ga.length := by rw [h.ga]; exact hn
        rw [hg, List.getD_eq_getElem?_getD, List.getD_eq_getElem?_getD, List.getElem?_eq_getElem h1, List.getElem?_eq_getElem h2] at ee
        exact hjn ((List.getElem_inj h.aa).1 (by simpa using ee))
      have hb := (h.inner j hj').fr hf hne
      simp only
      rw [List.getElem_modify, if_neg (fun e => hjn e.symm)]
      exact hb
/-- something has been appended to the prints: the world behind the append, and behind the store of the new slice -/
theorem Eng.newPrints (hy : LayOk y) (h : Eng y F w p U s L) {w1 : World} {v : Value} {l : List Int} (hg : w.grownBy w1 L.vp.ownBlock) (ho : w1.ownsRow 0 2 1 v l.length (numV l)) (hv : v.ownBlock = L.vp.ownBlock ∨ ∃ k, v.ownBlock = some k ∧ w.heap.size ≤ k) : Eng y F (w1.setCell ⟨p, y.iP, none⟩ v) p U { s with prints := l } { L with vp := v } := by
  have hf0 : Fr (fun b => L.vp.ownBlock = some b) w w1 := Fr.of_grown hg fun k hk => hk
  have hf1 : Fr (fun b => L.vp.ownBlock = some b ∨ b = p) w (w1.setCell ⟨p, y.iP, none⟩ v) := (hf0.mono fun _ hi => .inl hi).setCell (p := ⟨p, y.iP, none⟩) (.inl (.inr rfl)) v
  have hp1 := h.blk.fr hf0 (own_blk_ne h.prints h.blk hy.t4.symm)
  have hb := hp1.set_ y.iP v
  rw [hy.vp] at hb
  have hcell : y.cells { L with vp := v } U { s with prints := l } = y.cells { L with vp := v } U s := hy.eq _ _ _ _ rfl rfl rfl rfl rfl rfl rfl rfl
  have ne : ∀ {b t cs}, Blk w b t cs → t ≠ 2 → t ≠ y.ty → ¬ (L.vp.ownBlock = some b ∨ b = p) := fun hB h1 h2 e => e.elim (own_blk_ne h.prints hB h1.symm) (h.blk.ne_ hB h2.symm).symm
  refine
    { blk := (by rw [hcell]; exact hb), regs := h.regs.fr hf1 (ne h.regs (by decide) hy.t1.symm), kept := h.kept.fr hf1 (ne h.kept (by decide) hy.t1.symm), seen := h.seen.fr hf1 (ne h.seen (by decide) hy.t2.symm),
      arrs := own_fr h.arrs hf1 fun k hk e => e.elim (own_own_ne h.arrs h.prints (by decide) k hk) (fun e => own_blk_ne h.arrs h.blk hy.t3.symm (by rw [hk, e])), ga := h.ga,
      inner := fun j hj => (h.inner j hj).fr hf1 fun e => e.elim (h.ap _ (h.ga_at j hj)) (fun e => h.blk.ne_ (h.inner j hj) hy.t4 e.symm),
      prints := own_far ho ?_ v, ways := own_fr h.ways hf1 fun k hk e => e.elim (own_own_ne h.ways h.prints (by decide) k hk) (fun e => own_blk_ne h.ways h.blk hy.t5.symm (by rw [hk, e])),
      code := h.code.fr hf1 fun g hg e => h.away g hg (e.elim (fun e => .inr (.inr (.inr (.inr (.inr (.inl e)))))) .inl), rc := h.rc, ap := ?_, aa := h.aa, away := ?_, flt := fun g hg => Nat.lt_of_lt_of_le (h.flt g hg) hf1.size }
  · intro e
    rcases hv with hv | ⟨k, hk, hlt⟩
    · rw [hv] at e; exact own_blk_ne h.prints h.blk hy.t4.symm e
    · rw [hk] at e; have := h.blk.lt; injection e with e; simp only at e; omega
  · intro g hgm e
    rcases hv with hv | ⟨k, hk, hlt⟩
    · exact h.ap g hgm (by rw [← hv]; exact e)
    · have e' : v.ownBlock = some g := e
      rw [hk] at e'
      obtain ⟨cs, hc⟩ := h.ga_mem hgm
      have := hc.lt; injection e' with e'; omega
  · intro g hgF hm
    rcases hm with hm | hm | hm | hm | hm | hm | hm | hm
    · exact h.away g hgF (.inl hm)
    · exact h.away g hgF (.inr (.inl hm))
    · exact h.away g hgF (.inr (.inr (.inl hm)))
    · exact h.away g hgF (.inr (.inr (.inr (.inl hm))))
    · exact h.away g hgF (.inr (.inr (.inr (.inr (.inl hm)))))
    · rcases hv with hv | ⟨k, hk, hlt⟩
      · exact h.away g hgF (.inr (.inr (.inr (.inr (.inr (.inl (by rw [← hv]; exact hm)))))))
      · have e' : v.ownBlock = some g := hm
        rw [hk] at e'
        have := h.flt g hgF; injection e' with e'; omega
    · exact h.away g hgF (.inr (.inr (.inr (.inr (.inr (.inr (.inl hm)))))))
    · exact h.away g hgF (.inr (.inr (.inr (.inr (.inr (.inr (.inr hm)))))))
end Go.Proofs.YtfkjkdoloamakaaDoor
