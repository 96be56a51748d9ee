/- An engine in memory, part three: an array is appended to its arrays, a number is laid into a register; the state in which a run begins. -/
import Derived.Test.YtfkjkdoloamakaaDoorQd
namespace Go.Proofs.YtfkjkdoloamakaaDoor
open Go.RowKit
set_option linter.unusedVariables false
set_option linter.unusedSimpArgs false
variable {y : Lay} {F : Nat → Prop} {w w' : World} {p : Nat} {U : UnS} {s s' : St} {L : EngL} {w0 : World} {M0 : Nat → Prop}

theorem arrV_snoc : ∀ (gs : List Nat) (ls : List (List Int)) (g : Nat) (l : List Int), gs.length = ls.length → arrV (gs ++ [g]) (ls ++ [l]) = arrV gs ls ++ [ownRow g l.length]
  | [], [], _, _, _ => rfl
  | [], _ :: _, _, _, h => by simp at h
  | _ :: _, [], _, _, h => by simp at h
  | g :: gs, l :: ls, g', l', h => by
    simp only [List.cons_append, arrV, arrV_snoc gs ls g' l' (by simpa using h)]
theorem arrV_length : ∀ (gs : List Nat) (ls : List (List Int)), gs.length = ls.length → (arrV gs ls).length = ls.length
  | [], [], _ => rfl
  | [], _ :: _, h => by simp at h
  | _ :: _, [], h => by simp at h
  | g :: gs, l :: ls, h => by simp only [arrV, List.length_cons, arrV_length gs ls (by simpa using h)]

/-- an array has been appended to the arrays: the world behind the append, and behind the store of the new slice -/
theorem Eng.newArrs (hy : LayOk y) (h : Eng y F w p U s L) {w1 : World} {v : Value} {l : List Int} {g n : Nat} (hG : Blk w g 2 (numV l).toArray) (hga : g ∉ L.ga) (hgp : L.vp.ownBlock ≠ some g) (hgF : ¬ F g) (hn : n = s.arrs.length + 1) (hg : w.grownBy w1 L.va.ownBlock) (ho : w1.ownsRow 0 26 1 v n (arrV L.ga s.arrs ++ [ownRow g l.length])) (hv : v.ownBlock = L.va.ownBlock ∨ ∃ k, v.ownBlock = some k ∧ w.heap.size ≤ k) :
    Eng y F (w1.setCell ⟨p, y.iA, none⟩ v) p U { s with arrs := s.arrs ++ [l] } { L with va := v, ga := L.ga ++ [g] } := by
  subst hn
  have hf0 : Fr (fun b => L.va.ownBlock = some b) w w1 := Fr.of_grown hg fun k hk => hk
  have hf1 : Fr (fun b => L.va.ownBlock = some b ∨ b = p) w (w1.setCell ⟨p, y.iA, none⟩ v) := (hf0.mono fun _ hi => .inl hi).setCell (p := ⟨p, y.iA, none⟩) (.inl (.inr rfl)) v
  have hp1 := h.blk.fr hf0 (own_blk_ne h.arrs h.blk hy.t3.symm)
  have hb := hp1.set_ y.iA v
  rw [hy.va L U s v g] at hb
  have hcell : y.cells { L with va := v, ga := L.ga ++ [g] } U { s with arrs := s.arrs ++ [l] } = y.cells { L with va := v, ga := L.ga ++ [g] } U s := hy.eq _ _ _ _ rfl rfl rfl rfl rfl rfl rfl rfl
  have ne : ∀ {b t cs}, Blk w b t cs → t ≠ 26 → t ≠ y.ty → ¬ (L.va.ownBlock = some b ∨ b = p) := fun hB h1 h2 e => e.elim (own_blk_ne h.arrs hB h1.symm) (h.blk.ne_ hB h2.symm).symm
  refine
    { blk := (by rw [hcell]; exact hb), regs := h.regs.fr hf1 (ne h.regs (by decide) hy.t1.symm), kept := h.kept.fr hf1 (ne h.kept (by decide) hy.t1.symm), seen := h.seen.fr hf1 (ne h.seen (by decide) hy.t2.symm),
      arrs := own_far (by simp only [List.length_append, List.length_singleton]; rw [arrV_snoc _ _ _ _ h.ga]; exact ho) ?_ v, ga := (by simp [h.ga]),
      inner := ?_,
      prints := own_fr h.prints hf1 fun k hk e => e.elim (own_own_ne h.prints h.arrs (by decide) k hk) (fun e => own_blk_ne h.prints h.blk hy.t4.symm (by rw [hk, e])), ways := own_fr h.ways hf1 fun k hk e => e.elim (own_own_ne h.ways h.arrs (by decide) k hk) (fun e => own_blk_ne h.ways h.blk hy.t5.symm (by rw [hk, e])),
      code := h.code.fr hf1 fun g hg e => h.away g hg (e.elim (fun e => .inr (.inr (.inr (.inr (.inl e))))) .inl), rc := h.rc, ap := ?_, aa := ?_, away := ?_, flt := fun g hg => Nat.lt_of_lt_of_le (h.flt g hg) hf1.size }
  · intro e
    rcases hv with hv | ⟨k, hk, hlt⟩
    · rw [hv] at e; exact own_blk_ne h.arrs h.blk hy.t3.symm e
    · rw [hk] at e; have := h.blk.lt; injection e with e; simp only at e; omega
  · intro j hj
    have hj' : j < s.arrs.length + 1 := by simpa using hj
    by_cases hjn : j < s.arrs.length
    · have e1 : (L.ga ++ [g]).getD j 0 = L.ga.getD j 0 := by
        rw [List.getD_eq_getElem?_getD, List.getD_eq_getElem?_getD, List.getElem?_append_left (by rw [h.ga]; exact hjn)]
      simp only
      rw [e1, List.getElem_append_left hjn]
      exact (h.inner j hjn).fr hf1 (ne (h.inner j hjn) (by decide) hy.t4.symm)
    · obtain rfl : j = s.arrs.length := by omega
      have e1 : (L.ga ++ [g]).getD s.arrs.length 0 = g := by
        rw [List.getD_eq_getElem?_getD, List.getElem?_append_right (by rw [h.ga]; exact Nat.le_refl _), h.ga]; simp
      simp only
      rw [e1, List.getElem_append_right (Nat.le_refl _)]
      simp only [Nat.sub_self, List.getElem_cons_zero]
      exact hG.fr hf1 (ne hG (by decide) hy.t4.symm)
  · intro g' hgm e
    rcases List.mem_append.mp hgm with hm | hm
    · exact h.ap g' hm e
    · rw [List.mem_singleton] at hm; subst hm; exact hgp e
  · exact List.nodup_append.mpr ⟨h.aa, (by simp), fun a ha b hb e => by rw [List.mem_singleton] at hb; subst hb; subst e; exact hga ha⟩
  · intro g' hgF' hm
    rcases hm with hm | hm | hm | hm | hm | hm | hm | hm
    · exact h.away g' hgF' (.inl hm)
    · exact h.away g' hgF' (.inr (.inl hm))
    · exact h.away g' hgF' (.inr (.inr (.inl hm)))
    · exact h.away g' hgF' (.inr (.inr (.inr (.inl hm))))
    · rcases hv with hv | ⟨k, hk, hlt⟩
      · exact h.away g' hgF' (.inr (.inr (.inr (.inr (.inl (by rw [← hv]; exact hm))))))
      · have e' : v.ownBlock = some g' := hm
        rw [hk] at e'
        have := h.flt g' hgF'; injection e' with e'; omega
    · exact h.away g' hgF' (.inr (.inr (.inr (.inr (.inr (.inl hm))))))
    · exact h.away g' hgF' (.inr (.inr (.inr (.inr (.inr (.inr (.inl hm)))))))
    · rcases List.mem_append.mp hm with hm | hm
      · exact h.away g' hgF' (.inr (.inr (.inr (.inr (.inr (.inr (.inr hm)))))))
      · rw [List.mem_singleton] at hm; subst hm; exact hgF hgF'
theorem EngQ.newArrs (hy : LayOk y) (h : EngQ y F w0 M0 w p U s L) {w1 : World} {v : Value} {l : List Int} {g n : Nat} (hG : Blk w g 2 (numV l).toArray) (hga : g ∉ L.ga) (hgp : L.vp.ownBlock ≠ some g) (hgF : ¬ F g) (hgm : M0 g ∨ w0.heap.size ≤ g) (hn : n = s.arrs.length + 1) (hg : w.grownBy w1 L.va.ownBlock) (ho : w1.ownsRow 0 26 1 v n (arrV L.ga s.arrs ++ [ownRow g l.length])) (hv : v.ownBlock = L.va.ownBlock ∨ ∃ k, v.ownBlock = some k ∧ w.heap.size ≤ k) :
    EngQ y F w0 M0 (w1.setCell ⟨p, y.iA, none⟩ v) p U { s with arrs := s.arrs ++ [l] } { L with va := v, ga := L.ga ++ [g] } := by
  refine ⟨h.e.newArrs hy hG hga hgp hgF hn hg ho hv, (h.f.trans (Fr.of_grown (M := fun b => L.va.ownBlock = some b) hg fun k hk => hk) fun i hi => h.m _ (.inr (.inr (.inr (.inr (.inl hi)))))).setCell (p := ⟨p, y.iA, none⟩) (h.m _ (.inl rfl)) v, fun b hb => ?_⟩
  rcases hb with hb | hb | hb | hb | hb | hb | hb | hb
  · exact h.m b (.inl hb)
  · exact h.m b (.inr (.inl hb))
  · exact h.m b (.inr (.inr (.inl hb)))
  · exact h.m b (.inr (.inr (.inr (.inl hb))))
  · rcases hv with hv | ⟨k, hk, hlt⟩
    · exact h.m b (.inr (.inr (.inr (.inr (.inl (by rw [← hv]; exact hb))))))
    · have e' : v.ownBlock = some b := hb
      rw [hk] at e'; injection e' with e'; have := h.f.size; exact .inr (by omega)
  · exact h.m b (.inr (.inr (.inr (.inr (.inr (.inl hb))))))
  · exact h.m b (.inr (.inr (.inr (.inr (.inr (.inr (.inl hb)))))))
  · rcases List.mem_append.mp hb with hm | hm
    · exact h.m b (.inr (.inr (.inr (.inr (.inr (.inr (.inr hm)))))))
    · rw [List.mem_singleton] at hm; subst hm; exact hgm

/-- a register's number has been written -/
theorem Eng.newReg0 (hy : LayOk y) (h : Eng y F w p U s L) (r : Nat) (hr : r < s.regs.length) (x : Int) : Eng y F (w.setCell ⟨L.gr, r * 2, none⟩ (.int .i64 x)) p U { s with regs := s.regs.set r (x, (s.regs.getD r (0, 0)).2) } L := by
  have hf : Fr (fun b => b = L.gr) w (w.setCell ⟨L.gr, r * 2, none⟩ (.int .i64 x)) := Fr.one _ _ _ _
  have e : y.cells L U { s with regs := s.regs.set r (x, (s.regs.getD r (0, 0)).2) } = y.cells L U s := hy.eq _ _ _ _ (by simp) rfl rfl rfl rfl rfl rfl rfl
  refine
    { blk := (by rw [e]; exact h.blk.fr hf (h.blk.ne_ h.regs hy.t1)), regs := ?_, kept := h.kept.fr hf h.rc.symm, seen := h.seen.fr hf (h.seen.ne_ h.regs (by decide)),
      arrs := own_fr h.arrs hf fun k hk e => own_blk_ne h.arrs h.regs (by decide) (by rw [hk, e]), ga := h.ga,
      inner := fun j hj => (h.inner j hj).fr hf ((h.inner j hj).ne_ h.regs (by decide)),
      prints := own_fr h.prints hf fun k hk e => own_blk_ne h.prints h.regs (by decide) (by rw [hk, e]), ways := own_fr h.ways hf fun k hk e => own_blk_ne h.ways h.regs (by decide) (by rw [hk, e]),
      code := h.code.fr hf fun g hg e => h.away g hg (.inr (.inl e)), rc := h.rc, ap := h.ap, aa := h.aa, away := h.away, flt := fun g hg => Nat.lt_of_lt_of_le (h.flt g hg) hf.size }
  have hb := h.regs.set_ (r * 2) (.int .i64 x)
  simp only [List.setIfInBounds_toArray] at hb
  rw [valC_set0 s.regs r x hr] at hb
  exact hb
theorem EngQ.newReg0 (hy : LayOk y) (h : EngQ y F w0 M0 w p U s L) (r : Nat) (hr : r < s.regs.length) (x : Int) : EngQ y F w0 M0 (w.setCell ⟨L.gr, r * 2, none⟩ (.int .i64 x)) p U { s with regs := s.regs.set r (x, (s.regs.getD r (0, 0)).2) } L :=
  ⟨h.e.newReg0 hy r hr x, h.f.trans (Fr.one _ _ _ _) fun i hi => by subst hi; exact h.m _ (.inr (.inl rfl)), h.m⟩

/-! ### the state in which a run begins -/
def regsK (R : Nat) (args : List Int) (k : Nat) : List (Int × Int) := (args.take k).map (fun x => (x, (0 : Int))) ++ List.replicate (R - k) ((0 : Int), (0 : Int))
theorem regsK_length {R : Nat} {args : List Int} {k : Nat} (hk : k ≤ args.length) (hR : args.length ≤ R) : (regsK R args k).length = R := by
  simp [regsK]; omega
theorem regsK_next {R : Nat} {args : List Int} {k : Nat} (hk : k < args.length) (hR : args.length ≤ R) : (regsK R args k).set k (args[k], ((regsK R args k).getD k (0, 0)).2) = regsK R args (k + 1) := by
  have hl : ((args.take k).map (fun x => (x, (0 : Int)))).length = k := by simp; omega
  have e1 : R - k = (R - (k + 1)) + 1 := by omega
  have e2 : ((regsK R args k).getD k (0, 0)).2 = 0 := by
    unfold regsK
    rw [List.getD_eq_getElem?_getD, List.getElem?_append_right (by omega), hl, e1, Nat.sub_self]; rfl
  rw [e2]
  unfold regsK
  rw [List.set_append_right _ _ (by omega), hl, e1, Nat.sub_self, List.replicate_succ, List.set_cons_zero, List.take_succ_eq_append_getElem hk]
  simp only [List.map_append, List.map_cons, List.map_nil, List.append_assoc, List.cons_append, List.nil_append]
theorem regsK_zero (R : Nat) (args : List Int) : regsK R args 0 = List.replicate R (0, 0) := by simp [regsK]
/-- the state behind n arrays and k arguments -/
def stK (U : UnS) (args : List Int) (n k : Nat) : St :=
  { regs := regsK U.regs.toNat args k, kept := List.replicate U.spill.toNat (0, 0), arrs := (U.sizes.take n).map fun n => List.replicate n.toNat 0, prints := [], bl := 0, pc := 0, steps := 0, kind := 0, val := 0, ways := [], seen := List.replicate U.blocks.length (0, 0, 0) }
theorem stK_init (U : UnS) (args : List Int) : (stK U args U.sizes.length args.length).enter 0 = St.init U args := by
  simp [St.init, stK, regsK]
theorem StGood.init (G : UnGood U) (args : List Int) (ha : (args.length : Int) ≤ U.regs) : StGood U (St.init U args) := by
  have h1 := G.r1
  have h2 := G.sp
  rw [← stK_init]
  refine StGood.enter ?_ 0 G.nb
  exact
    { regs := by show ((regsK U.regs.toNat args args.length).length : Int) = U.regs; rw [regsK_length (Nat.le_refl _) (by omega)]; omega
      kept := by show ((List.replicate U.spill.toNat ((0 : Int), (0 : Int))).length : Int) = U.spill; simp; omega
      arrs := by simp [stK]
      alen := fun l hl => by
        simp only [stK, List.take_length, List.mem_map] at hl
        obtain ⟨n, hn, rfl⟩ := hl
        have := G.sz n hn
        simp; omega
      seen := by simp [stK]
      bl := G.nb
      pc := Nat.zero_le _
      st0 := Int.le_refl _
      st1 := by show (0 : Int) ≤ _; omega
      pr := by show ((0 : Nat) : Int) ≤ 0; omega
      ways := Nat.zero_le _
      form := fun v hv => by
        have hv' : v ∈ regsK U.regs.toNat args args.length := hv
        simp only [regsK, List.mem_append, List.mem_map, List.mem_replicate] at hv'
        rcases hv' with ⟨x, _, rfl⟩ | ⟨_, rfl⟩ <;> simp [fm]
      form2 := fun v hv => by
        have hv' : v ∈ List.replicate U.spill.toNat ((0 : Int), (0 : Int)) := hv
        rw [(List.mem_replicate.mp hv').2]; simp [fm] }

theorem Eng.blk_arrs (hy : LayOk y) (h : Eng y F w p U s L) {w1 : World} (hg : w.grownBy w1 L.va.ownBlock) : Blk w1 p y.ty (y.cells L U s) :=
  h.blk.fr (Fr.of_grown (M := fun b => L.va.ownBlock = some b) hg fun _ hk => hk) (own_blk_ne h.arrs h.blk hy.t3.symm)
theorem stK_arrs (U : UnS) (args : List Int) (n k : Nat) (hn : n ≤ U.sizes.length) : (stK U args n k).arrs.length = n := by simp [stK]; omega
theorem stK_regs (U : UnS) (args : List Int) (n k : Nat) (hk : k ≤ args.length) (hR : (args.length : Int) ≤ U.regs) : (stK U args n k).regs.length = U.regs.toNat := regsK_length hk (by omega)
theorem stK_arr (U : UnS) (args : List Int) (n k : Nat) (hn : n < U.sizes.length) : { stK U args n k with arrs := (stK U args n k).arrs ++ [List.replicate U.sizes[n].toNat 0] } = stK U args (n + 1) k := by
  simp only [stK, List.take_succ_eq_append_getElem hn, List.map_append, List.map_cons, List.map_nil]
theorem stK_reg (U : UnS) (args : List Int) (n k : Nat) (hk : k < args.length) (hR : (args.length : Int) ≤ U.regs) : { stK U args n k with regs := (stK U args n k).regs.set k (args[k], ((stK U args n k).regs.getD k (0, 0)).2) } = stK U args n (k + 1) := by
  simp only [stK, regsK_next hk (show args.length ≤ U.regs.toNat by omega)]
end Go.Proofs.YtfkjkdoloamakaaDoor
