import Derived.Test.YtfkjkdoloamakaaDoorQd
import Derived.Laws.MakeOwn
import Derived.Laws.Entries
import Derived.Deep.CutRange
import Derived.Deep.DeepCutAuto
import Derived.Test.YtfkjkdoloamakaaDoorMb
/- An engine in memory, part three: an array is appended to its arrays, a number is laid into a register; the state in which a run begins. -/
namespace Go.Proofs.YtfkjkdoloamakaaDoor
open Go.RowKit
set_option linter.unusedVariables false
set_option linter.unusedSimpArgs false
variable {y : Lay} {F : Nat → Prop} {w w' : World} {p : Nat} {U : UnS} {s s' : St} {L : EngL} {w0 : World} {M0 : Nat → Prop}

theorem arrV_snoc : ∀ (gs : List Nat) (ls : List (List Int)) (g : Nat) (l : List Int), gs.length = ls.length → arrV (gs ++ [g]) (ls ++ [l]) = arrV gs ls ++ [ownRow g l.length]
  | [], [], _, _, _ => rfl
  | [], _ :: _, _, _, h => by simp at h
  | _ :: _, [], _, _, h => by simp at h
  | g :: gs, l :: ls, g', l', h => by
    simp only [List.cons_append, arrV, arrV_snoc gs ls g' l' (by simpa using h)]
theorem arrV_length : ∀ (gs : List Nat) (ls : List (List Int)), gs.length = ls.length → (arrV gs ls).length = ls.length
  | [], [], _ => rfl
  | [], _ :: _, h => by simp at h
  | _ :: _, [], h => by simp at h
  | g :: gs, l :: ls, h => by simp only [arrV, List.length_cons, arrV_length gs ls (by simpa using h)]

/-- an array has been appended to the arrays: the world behind the append, and behind the store of the new slice -/
theorem Eng.newArrs (hy : LayOk y) (h : Eng y F w p U s L) {w1 : World} {v : Value} {l : List Int} {g n : Nat} (hG : Blk w g 2 (numV l).toArray) (hga : g ∉ L.ga) (hgp : L.vp.ownBlock ≠ some g) (hgF : ¬ F g) (hn : n = s.arrs.length + 1) (hg : w.grownBy w1 L.va.ownBlock) (ho : w1.ownsRow 0 26 1 v n (arrV L.ga s.arrs ++ [ownRow g l.length])) (hv : v.ownBlock = L.va.ownBlock ∨ ∃ k, v.ownBlock = some k ∧ w.heap.size ≤ k) :
    Eng y F (w1.setCell ⟨p, y.iA, none⟩ v) p U { s with arrs := s.arrs ++ [l] } { L with va := v, ga := L.ga ++ [g] } := by
  subst hn
  have hf0 : Fr (fun b => L.va.ownBlock = some b) w w1 := Fr.of_grown hg fun k hk => hk
  have hf1 : Fr (fun b => L.va.ownBlock = some b ∨ b = p) w (w1.setCell ⟨p, y.iA, none⟩ v) := (hf0.mono fun _ hi => .inl hi).setCell (p := ⟨p, y.iA, none⟩) (.inl (.inr rfl)) v
  have hp1 := h.blk.fr hf0 (own_blk_ne h.arrs h.blk hy.t3.symm)
  have hb := hp1.set_ y.iA v
  rw [hy.va L U s v g] at hb
  have hcell : y.cells { L with va := v, ga := L.ga ++ [g] } U { s with arrs := s.arrs ++ [l] } = y.cells { L with va := v, ga := L.ga ++ [g] } U s := hy.eq _ _ _ _ rfl rfl rfl rfl rfl rfl rfl rfl
  have ne : ∀ {b t cs}, Blk w b t cs → t ≠ 26 → t ≠ y.ty → ¬ (L.va.ownBlock = some b ∨ b = p) := fun hB h1 h2 e => e.elim (own_blk_ne h.arrs hB h1.symm) (h.blk.ne_ hB h2.symm).symm
  refine
    { blk := (by rw [hcell]; exact hb), regs := h.regs.fr hf1 (ne h.regs (by decide) hy.t1.symm), kept := h.kept.fr hf1 (ne h.kept (by decide) hy.t1.symm), seen := h.seen.fr hf1 (ne h.seen (by decide) hy.t2.symm),
      arrs := own_far (by simp only [List.length_append, List.length_singleton]; rw [arrV_snoc _ _ _ _ h.ga]; exact ho) ?_ v, ga := (by simp [h.ga]),
      inner := ?_,
      prints := own_fr h.prints hf1 fun k hk e => e.elim (own_own_ne h.prints h.arrs (by decide) k hk) (fun e => own_blk_ne h.prints h.blk hy.t4.symm (by rw [hk, e])), ways := own_fr h.ways hf1 fun k hk e => e.elim (own_own_ne h.ways h.arrs (by decide) k hk) (fun e => own_blk_ne h.ways h.blk hy.t5.symm (by rw [hk, e])),
      code := h.code.fr hf1 fun g hg e => h.away g hg (e.elim (fun e => .inr (.inr (.inr (.inr (.inl e))))) .inl), rc := h.rc, ap := ?_, aa := ?_, away := ?_, flt := fun g hg => Nat.lt_of_lt_of_le (h.flt g hg) hf1.size }
  · intro e
    rcases hv with hv | ⟨k, hk, hlt⟩
    · rw [hv] at e; exact own_blk_ne h.arrs h.blk hy.t3.symm e
    · rw [hk] at e; have := h.blk.lt; injection e with e; simp only at e; omega
  · intro j hj
    have hj' : j < s.arrs.length + 1 := by simpa using hj
    by_cases hjn : j < s.arrs.length
    · have e1 : (L.ga ++ [g]).getD j 0 = L.ga.getD j 0 := by
        rw [List.getD_eq_getElem?_getD, List.getD_eq_getElem?_getD, List.getElem?_append_left (by rw [h.ga]; exact hjn)]
      simp only
      rw [e1, List.getElem_append_left hjn]
      exact (h.inner j hjn).fr hf1 (ne (h.inner j hjn) (by decide) hy.t4.symm)
    · obtain rfl : j = s.arrs.length := by omega
      have e1 : (L.ga ++ [g]).getD s.arrs.length 0 = g := by
        rw [List.getD_eq_getElem?_getD, List.getElem?_append_right (by rw [h.ga]; exact Nat.le_refl _), h.ga]; simp
      simp only
      rw [e1, List.getElem_append_right (Nat.le_refl _)]
      simp only [Nat.sub_self, List.getElem_cons_zero]
      exact hG.fr hf1 (ne hG (by decide) hy.t4.symm)
  · intro g' hgm e
    rcases List.mem_append.mp hgm with hm | hm
    · exact h.ap g' hm e
    · rw [List.mem_singleton] at hm; subst hm; exact hgp e
  · exact List.nodup_append.mpr ⟨h.aa, (by simp), fun a ha b hb e => by rw [List.mem_singleton] at hb; subst hb; subst e; exact hga ha⟩
  · intro g' hgF' hm
    rcases hm with hm | hm | hm | hm | hm | hm | hm | hm
    · exact h.away g' hgF' (.inl hm)
    · exact h.away g' hgF' (.inr (.inl hm))
    · exact h.away g' hgF' (.inr (.inr (.inl hm)))
    · exact h.away g' hgF' (.inr (.inr (.inr (.inl hm))))
    · rcases hv with hv | ⟨k, hk, hlt⟩
      · exact h.away g' hgF' (.inr (.inr (.inr (.inr (.inl (by rw [← hv]; exact hm))))))
      · have e' : v.ownBlock = some g' := hm
        rw [hk] at e'
        have := h.flt g' hgF'; injection e' with e'; omega
    · exact h.away g' hgF' (.inr (.inr (.inr (.inr (.inr (.inl hm))))))
    · exact h.away g' hgF' (.inr (.inr (.inr (.inr (.inr (.inr (.inl hm)))))))
    · rcases List.mem_append.mp hm with hm | hm
      · exact h.away g' hgF' (.inr (.inr (.inr (.inr (.inr (.inr (.inr hm)))))))
      · rw [List.mem_singleton] at hm; subst hm; exact hgF hgF'
theorem EngQ.newArrs (hy : LayOk y) (h : EngQ y F w0 M0 w p U s L) {w1 : World} {v : Value} {l : List Int} {g n : Nat} (hG : Blk w g 2 (numV l).toArray) (hga : g ∉ L.ga) (hgp : L.vp.ownBlock ≠ some g) (hgF : ¬ F g) (hgm : M0 g ∨ w0.heap.size ≤ g) (hn : n = s.arrs.length + 1) (hg : w.grownBy w1 L.va.ownBlock) (ho : w1.ownsRow 0 26 1 v n (arrV L.ga s.arrs ++ [ownRow g l.length])) (hv : v.ownBlock = L.va.ownBlock ∨ ∃ k, v.ownBlock = some k ∧ w.heap.size ≤ k) :
    EngQ y F w0 M0 (w1.setCell ⟨p, y.iA, none⟩ v) p U { s with arrs := s.arrs ++ [l] } { L with va := v, ga := L.ga ++ [g] } := by
  refine ⟨h.e.newArrs hy hG hga hgp hgF hn hg ho hv, (h.f.trans (Fr.of_grown (M := fun b => L.va.ownBlock = some b) hg fun k hk => hk) fun i hi => h.m _ (.inr (.inr (.inr (.inr (.inl hi)))))).setCell (p := ⟨p, y.iA, none⟩) (h.m _ (.inl rfl)) v, fun b hb => ?_⟩
  rcases hb with hb | hb | hb | hb | hb | hb | hb | hb
  · exact h.m b (.inl hb)
  · exact h.m b (.inr (.inl hb))
  · exact h.m b (.inr (.inr (.inl hb)))
  · exact h.m b (.inr (.inr (.inr (.inl hb))))
  · rcases hv with hv | ⟨k, hk, hlt⟩
    · exact h.m b (.inr (.inr (.inr (.inr (.inl (by rw [← hv]; exact hb))))))
    · have e' : v.ownBlock = some b := hb
      rw [hk] at e'; injection e' with e'; have := h.f.size; exact .inr (by omega)
  · exact h.m b (.inr (.inr (.inr (.inr (.inr (.inl hb))))))
  · exact h.m b (.inr (.inr (.inr (.inr (.inr (.inr (.inl hb)))))))
  · rcases List.mem_append.mp hb with hm | hm
    · exact h.m b (.inr (.inr (.inr (.inr (.inr (.inr (.inr hm)))))))
    · rw [List.mem_singleton] at hm; subst hm; exact hgm

/-- a register's number has been written -/
theorem Eng.newReg0 (hy : LayOk y) (h : Eng y F w p U s L) (r : Nat) (hr : r < s.regs.length) (x : Int) : Eng y F (w.setCell ⟨L.gr, r * 2, none⟩ (.int .i64 x)) p U { s with regs := s.regs.set r (x, (s.regs.getD r (0, 0)).2) } L := by
  have hf : Fr (fun b => b = L.gr) w (w.setCell ⟨L.gr, r * 2, none⟩ (.int .i64 x)) := Fr.one _ _ _ _
  have e : y.cells L U { s with regs := s.regs.set r (x, (s.regs.getD r (0, 0)).2) } = y.cells L U s := hy.eq _ _ _ _ (by simp) rfl rfl rfl rfl rfl rfl rfl
  refine
    { blk := (by rw [e]; exact h.blk.fr hf (h.blk.ne_ h.regs hy.t1)), regs := ?_, kept := h.kept.fr hf h.rc.symm, seen := h.seen.fr hf (h.seen.ne_ h.regs (by decide)),
      arrs := own_fr h.arrs hf fun k hk e => own_blk_ne h.arrs h.regs (by decide) (by rw [hk, e]), ga := h.ga,
      inner := fun j hj => (h.inner j hj).fr hf ((h.inner j hj).ne_ h.regs (by decide)),
      prints := own_fr h.prints hf fun k hk e => own_blk_ne h.prints h.regs (by decide) (by rw [hk, e]), ways := own_fr h.ways hf fun k hk e => own_blk_ne h.ways h.regs (by decide) (by rw [hk, e]),
      code := h.code.fr hf fun g hg e => h.away g hg (.inr (.inl e)), rc := h.rc, ap := h.ap, aa := h.aa, away := h.away, flt := fun g hg => Nat.lt_of_lt_of_le (h.flt g hg) hf.size }
  have hb := h.regs.set_ (r * 2) (.int .i64 x)
  simp only [List.setIfInBounds_toArray] at hb
  rw [valC_set0 s.regs r x hr] at hb
  exact hb
theorem EngQ.newReg0 (hy : LayOk y) (h : EngQ y F w0 M0 w p U s L) (r : Nat) (hr : r < s.regs.length) (x : Int) : EngQ y F w0 M0 (w.setCell ⟨L.gr, r * 2, none⟩ (.int .i64 x)) p U { s with regs := s.regs.set r (x, (s.regs.getD r (0, 0)).2) } L :=
  ⟨h.e.newReg0 hy r hr x, h.f.trans (Fr.one _ _ _ _) fun i hi => by subst hi; exact h.m _ (.inr (.inl rfl)), h.m⟩

/-! ### the state in which a run begins -/
def regsK (R : Nat) (args : List Int) (k : Nat) : List (Int × Int) := (args.take k).map (fun x => (x, (0 : Int))) ++ List.replicate (R - k) ((0 : Int), (0 : Int))
theorem regsK_length {R : Nat} {args : List Int} {k : Nat} (hk : k ≤ args.length) (hR : args.length ≤ R) : (regsK R args k).length = R := by
  simp [regsK]; omega
theorem regsK_next {R : Nat} {args : List Int} {k : Nat} (hk : k < args.length) (hR : args.length ≤ R) : (regsK R args k).set k (args[k], ((regsK R args k).getD k (0, 0)).2) = regsK R args (k + 1) := by
  have hl : ((args.take k).map (fun x => (x, (0 : Int)))).length = k := by simp; omega
  have e1 : R - k = (R - (k + 1)) + 1 := by omega
  have e2 : ((regsK R args k).getD k (0, 0)).2 = 0 := by
    unfold regsK
    rw [List.getD_eq_getElem?_getD, List.getElem?_append_right (by omega), hl, e1, Nat.sub_self]; rfl
  rw [e2]
  unfold regsK
  rw [List.set_append_right _ _ (by omega), hl, e1, Nat.sub_self, List.replicate_succ, List.set_cons_zero, List.take_succ_eq_append_getElem hk]
  simp only [List.map_append, List.map_cons, List.map_nil, List.append_assoc, List.cons_append, List.nil_append]
theorem regsK_zero (R : Nat) (args : List Int) : regsK R args 0 = List.replicate R (0, 0) := by simp [regsK]
/-- the state behind n arrays and k arguments -/
def stK (U : UnS) (args : List Int) (n k : Nat) : St :=
  { regs := regsK U.regs.toNat args k, kept := List.replicate U.spill.toNat (0, 0), arrs := (U.sizes.take n).map fun n => List.replicate n.toNat 0, prints := [], bl := 0, pc := 0, steps := 0, kind := 0, val := 0, ways := [], seen := List.replicate U.blocks.length (0, 0, 0) }
theorem stK_init (U : UnS) (args : List Int) : (stK U args U.sizes.length args.length).enter 0 = St.init U args := by
  simp [St.init, stK, regsK]
theorem StGood.init (G : UnGood U) (args : List Int) (ha : (args.length : Int) ≤ U.regs) : StGood U (St.init U args) := by
  have h1 := G.r1
  have h2 := G.sp
  rw [← stK_init]
  refine StGood.enter ?_ 0 G.nb
  exact
    { regs := by show ((regsK U.regs.toNat args args.length).length : Int) = U.regs; rw [regsK_length (Nat.le_refl _) (by omega)]; omega
      kept := by show ((List.replicate U.spill.toNat ((0 : Int), (0 : Int))).length : Int) = U.spill; simp; omega
      arrs := by simp [stK]
      alen := fun l hl => by
        simp only [stK, List.take_length, List.mem_map] at hl
        obtain ⟨n, hn, rfl⟩ := hl
        have := G.sz n hn
        simp; omega
      seen := by simp [stK]
      bl := G.nb
      pc := Nat.zero_le _
      st0 := Int.le_refl _
      st1 := by show (0 : Int) ≤ _; omega
      pr := by show ((0 : Nat) : Int) ≤ 0; omega
      ways := Nat.zero_le _
      form := fun v hv => by
        have hv' : v ∈ regsK U.regs.toNat args args.length := hv
        simp only [regsK, List.mem_append, List.mem_map, List.mem_replicate] at hv'
        rcases hv' with ⟨x, _, rfl⟩ | ⟨_, rfl⟩ <;> simp [fm]
      form2 := fun v hv => by
        have hv' : v ∈ List.replicate U.spill.toNat ((0 : Int), (0 : Int)) := hv
        rw [(List.mem_replicate.mp hv').2]; simp [fm] }

theorem Eng.blk_arrs (hy : LayOk y) (h : Eng y F w p U s L) {w1 : World} (hg : w.grownBy w1 L.va.ownBlock) : Blk w1 p y.ty (y.cells L U s) :=
  h.blk.fr (Fr.of_grown (M := fun b => L.va.ownBlock = some b) hg fun _ hk => hk) (own_blk_ne h.arrs h.blk hy.t3.symm)
theorem stK_arrs (U : UnS) (args : List Int) (n k : Nat) (hn : n ≤ U.sizes.length) : (stK U args n k).arrs.length = n := by simp [stK]; omega
theorem stK_regs (U : UnS) (args : List Int) (n k : Nat) (hk : k ≤ args.length) (hR : (args.length : Int) ≤ U.regs) : (stK U args n k).regs.length = U.regs.toNat := regsK_length hk (by omega)
theorem stK_arr (U : UnS) (args : List Int) (n k : Nat) (hn : n < U.sizes.length) : { stK U args n k with arrs := (stK U args n k).arrs ++ [List.replicate U.sizes[n].toNat 0] } = stK U args (n + 1) k := by
  simp only [stK, List.take_succ_eq_append_getElem hn, List.map_append, List.map_cons, List.map_nil]
theorem stK_reg (U : UnS) (args : List Int) (n k : Nat) (hk : k < args.length) (hR : (args.length : Int) ≤ U.regs) : { stK U args n k with regs := (stK U args n k).regs.set k (args[k], ((stK U args n k).regs.getD k (0, 0)).2) } = stK U args n (k + 1) := by
  simp only [stK, regsK_next hk (show args.length ≤ U.regs.toNat by omega)]
end Go.Proofs.YtfkjkdoloamakaaDoor

/- What start of package run leaves: an engine in the state St.init. -/
namespace Go.Proofs.YtfkjkdoloamakaaDoor
open Go.RowKit
set_option linter.unusedVariables false
set_option linter.unusedSimpArgs false
variable {w : World} {U : UnS} {Av Ab : Option Addr} {cv cb : Nat} {F : Nat → Prop}

theorem made_zero (z : Array Value) (hz : ∀ i, z[i % z.size]! = .int .i64 0) (m : Nat) : madeCells z m = (List.replicate m (.int .i64 0)).toArray := by
  unfold madeCells
  apply Array.ext
  · simp
  · intro i h1 h2
    simp [hz]
theorem zero1 (i : Nat) : (#[Value.int .i64 0] : Array Value)[i % (#[Value.int .i64 0] : Array Value).size]! = .int .i64 0 := by
  have h : i % 1 = 0 := by omega
  simp [h]
theorem zero2 (i : Nat) : (#[Value.int .i64 0, Value.int .i64 0] : Array Value)[i % (#[Value.int .i64 0, Value.int .i64 0] : Array Value).size]! = .int .i64 0 := by
  have h : i % 2 = 0 ∨ i % 2 = 1 := by omega
  rcases h with h | h <;> simp [h]
theorem zero3 (i : Nat) : (#[Value.int .i64 0, Value.int .i64 0, Value.int .i64 0] : Array Value)[i % (#[Value.int .i64 0, Value.int .i64 0, Value.int .i64 0] : Array Value).size]! = .int .i64 0 := by
  have h : i % 3 = 0 ∨ i % 3 = 1 ∨ i % 3 = 2 := by omega
  rcases h with h | h | h <;> simp [h]
theorem valC_zero : ∀ n : Nat, valC (List.replicate n (0, 0)) = List.replicate (n * 2) (.int .i64 0)
  | 0 => rfl
  | n + 1 => by
    rw [show (n + 1) * 2 = n * 2 + 1 + 1 by omega]
    simp only [List.replicate_succ, valC, valC_zero n]
theorem cntC_zero : ∀ n : Nat, cntC (List.replicate n (0, 0, 0)) = List.replicate (n * 3) (.int .i64 0)
  | 0 => rfl
  | n + 1 => by
    rw [show (n + 1) * 3 = n * 3 + 1 + 1 + 1 by omega]
    simp only [List.replicate_succ, cntC, cntC_zero n]
theorem make_val (n : Int) (h0 : 0 ≤ n) (h1 : n ≤ 100000) (W : World) : (Instr.makeSlice 63 (.int .i64 n) (.int .i64 n)).run Tryd.prog W = .ok (.slice (some ⟨W.heap.size, 0, none⟩) n.toNat n.toNat) (W.alloc (.cells (valC (List.replicate n.toNat (0, 0))).toArray 85)) := by
  obtain ⟨i0, hi, hz0, hz1, hz2⟩ := info_parts inf_val
  have hr := run_make (P := Tryd.prog) W 63 85 i0 _ Tryd.underlying63 hi hz0 .i64 .i64 n n h0 (Int.le_refl _) (by rw [hz2]; omega) (by omega)
  rw [hr, hz1, valC_zero]
  exact congrArg (fun x => Result.ok (Value.slice (some ⟨W.heap.size, 0, none⟩) n.toNat n.toNat) (W.alloc (.cells x 85))) (made_zero _ zero2 _)
theorem make_cnt (n : Nat) (h1 : n ≤ 100000) (W : World) : (Instr.makeSlice 55 (.int .i64 (n : Int)) (.int .i64 (n : Int))).run Tryd.prog W = .ok (.slice (some ⟨W.heap.size, 0, none⟩) n n) (W.alloc (.cells (cntC (List.replicate n (0, 0, 0))).toArray 68)) := by
  obtain ⟨i0, hi, hz0, hz1, hz2⟩ := info_parts inf_cnt
  have hr := run_make (P := Tryd.prog) W 55 68 i0 _ Tryd.underlying55 hi hz0 .i64 .i64 n n (by omega) (Int.le_refl _) (by rw [hz2]; omega) (by omega)
  rw [hr, hz1, cntC_zero, Int.toNat_natCast]
  exact congrArg (fun x => Result.ok (Value.slice (some ⟨W.heap.size, 0, none⟩) n n) (W.alloc (.cells x 68))) (made_zero _ zero3 _)
theorem make_i64 (n : Int) (h0 : 0 ≤ n) (h1 : n ≤ 100000) (W : World) : (Instr.makeSlice 26 (.int .i64 n) (.int .i64 n)).run Tryd.prog W = .ok (.slice (some ⟨W.heap.size, 0, none⟩) n.toNat n.toNat) (W.alloc (.cells (numV (List.replicate n.toNat 0)).toArray 2)) := by
  obtain ⟨i0, hi, hz0, hz1, hz2⟩ := info_parts inf_i64
  have hr := run_make (P := Tryd.prog) W 26 2 i0 _ Tryd.underlying26 hi hz0 .i64 .i64 n n h0 (Int.le_refl _) (by rw [hz2]; omega) (by omega)
  rw [hr, hz1, Nat.mul_one]
  exact congrArg (fun x => Result.ok (Value.slice (some ⟨W.heap.size, 0, none⟩) n.toNat n.toNat) (W.alloc (.cells x 2))) ((made_zero _ zero1 _).trans (by simp [numV]))

/-- what stands when the unit is copied and the engine's block is laid -/
structure StA (F' : Nat → Prop) (w wc : World) (U : UnS) (p gs : Nat) (us ub : Value) : Prop where
  bel : Fr (fun _ => False) w wc
  eng : Blk wc p 83 #[us, .int .i64 U.params, .int .i64 U.regs, .int .i64 U.code, .int .i64 U.spill, ub, .slice none 0 0, .slice none 0 0, .slice none 0 0, .slice none 0 0, .int .i64 0, .int .i64 0, .int .i64 0, .int .i64 0, .int .i64 0, .slice none 0 0, .slice (some ⟨gs, 0, none⟩) U.blocks.length U.blocks.length]
  seen : Blk wc gs 68 (cntC (List.replicate U.blocks.length (0, 0, 0))).toArray
  code : RdBlocks F' wc ub U.blocks
  far : ∀ g, F' g → g ≠ p ∧ g ≠ gs ∧ g < wc.heap.size
  up : w.heap.size ≤ p ∧ w.heap.size ≤ gs
theorem ownsRow_nil (w : World) (t : TypeId) (sz : Nat) : w.ownsRow 0 t sz (.slice none 0 0) 0 [] := ⟨by simp, .inl ⟨rfl, rfl⟩⟩
theorem StA.engQ {F' : Nat → Prop} {wc wr : World} {p gs gr gc : Nat} {us ub : Value} (args : List Int) (h : StA F' w wc U p gs us ub) (hf : Fr (fun b => b = p) wc wr) (hz : wc.heap.size ≤ gr) (hz2 : wc.heap.size ≤ gc) (hne : gr ≠ gc)
    (hp : Blk wr p 83 #[us, .int .i64 U.params, .int .i64 U.regs, .int .i64 U.code, .int .i64 U.spill, ub, .slice (some ⟨gr, 0, none⟩) U.regs.toNat U.regs.toNat, .slice (some ⟨gc, 0, none⟩) U.spill.toNat U.spill.toNat, .slice none 0 0, .slice none 0 0, .int .i64 0, .int .i64 0, .int .i64 0, .int .i64 0, .int .i64 0, .slice none 0 0, .slice (some ⟨gs, 0, none⟩) U.blocks.length U.blocks.length])
    (hr : Blk wr gr 85 (valC (List.replicate U.regs.toNat (0, 0))).toArray) (hc : Blk wr gc 85 (valC (List.replicate U.spill.toNat (0, 0))).toArray) :
    EngQ layP F' w (fun _ => False) wr p U (stK U args 0 0) { us := us, ub := ub, va := .slice none 0 0, vp := .slice none 0 0, vw := .slice none 0 0, gr := gr, gc := gc, gs := gs, ga := [] } := by
  have hsz := h.bel.size
  obtain ⟨u1, u2⟩ := h.up
  have e1 : regsK U.regs.toNat args 0 = List.replicate U.regs.toNat (0, 0) := regsK_zero _ _
  refine ⟨?_, h.bel.trans hf (fun i hi => .inr (by have e : i = p := hi; omega)), fun b hb => .inr ?_⟩
  · exact
      { blk := by simp only [layP, stK, e1, List.length_replicate, ownRow]; exact hp
        regs := by simp only [stK, e1]; exact hr
        kept := hc
        seen := h.seen.fr hf (h.eng.ne_ h.seen (by decide)).symm
        arrs := ownsRow_nil _ _ _
        ga := rfl
        inner := fun j hj => absurd hj (by simp [stK])
        prints := ownsRow_nil _ _ _
        ways := ownsRow_nil _ _ _
        code := h.code.fr hf fun g hg e => (h.far g hg).1 e
        rc := hne
        ap := fun g hg => absurd hg (by simp)
        aa := List.nodup_nil
        away := fun g hg hM => by
          obtain ⟨f1, f2, f3⟩ := h.far g hg
          rcases hM with e | e | e | e | e | e | e | e
          · exact f1 e
          · have e' : g = gr := e; omega
          · have e' : g = gc := e; omega
          · exact f2 e
          · cases e
          · cases e
          · cases e
          · cases e
        flt := fun g hg => Nat.lt_of_lt_of_le (h.far g hg).2.2 hf.size }
  · rcases hb with e | e | e | e | e | e | e | e
    · have e' : b = p := e; omega
    · have e' : b = gr := e; omega
    · have e' : b = gc := e; omega
    · have e' : b = gs := e; omega
    · cases e
    · cases e
    · cases e
    · cases e
end Go.Proofs.YtfkjkdoloamakaaDoor

/- What an Engine that nobody made answers: nil, or the zero Engine. -/
namespace Go.Proofs.YtfkjkdoloamakaaDoor
open Go.RowKit
set_option linter.unusedVariables false
set_option linter.unusedSimpArgs false
variable {w : World} {q : Option Addr}

/-- nil, or an Engine without blocks -/
def Nob (w : World) (q : Option Addr) : Prop := q = none ∨ ∃ p, q = some ⟨p, 0, none⟩ ∧ w.cell? ⟨p, 5, none⟩ = some (.slice none 0 0)
theorem Nob.below {w' : World} (h : Nob w q) (hb : Below w.heap.size w w') : Nob w' q := by
  rcases h with h | ⟨p, h, hc⟩
  · exact .inl h
  · exact .inr ⟨p, h, (hb.cell (p := ⟨p, 5, none⟩) (World.block_lt_of_cell? w _ hc)).trans hc⟩
theorem Nob.alloc (h : Nob w q) (o : Obj) : Nob (w.alloc o) q := h.below ((Below.refl _ _).alloc (Nat.le_refl _) _)
theorem ok_nob (h : Nob w q) : Calls Tryd.prog 51 #[.pointer q] w fun e w' => e = .returned (.bool false) ∧ w = w' := by
  rcases h with rfl | ⟨p, rfl, hc⟩
  · go_enter Tryd.func51, Tryd.ntmps51
    go_wp2
    go_ret
    exact ⟨rfl, rfl⟩
  · go_enter Tryd.func51, Tryd.ntmps51
    go_wp2
    go_ret
    exact ⟨rfl, rfl⟩
theorem steps_nob (h : Nob w q) : Calls Tryd.prog 23 #[.pointer q] w fun e w' => e = .returned (.int .i64 0) ∧ w = w' := by
  have H := Lib.hid h
  clear h
  go_enter Tryd.func23, Tryd.ntmps23
  go_wp2_with (go_at_call 51; refine (ok_nob H.out).mono ?_; rintro e w' ⟨rfl, rfl⟩)
  go_ret
  exact ⟨rfl, rfl⟩
theorem copy_nob (h : Nob w q) : Calls Tryd.prog 34 #[.pointer q] w fun e w' => e = .returned (.pointer none) ∧ w = w' := by
  have H := Lib.hid h
  clear h
  go_enter Tryd.func34, Tryd.ntmps34
  go_wp2_with (go_at_call 51; refine (ok_nob H.out).mono ?_; rintro e w' ⟨rfl, rfl⟩)
  go_ret
  exact ⟨rfl, rfl⟩
theorem where_nob (h : Nob w q) : Calls Tryd.prog 33 #[.pointer q] w fun e w' => e = .returned (.tuple #[.int .i64 0, .int .i64 0, .bool false]) ∧ w = w' := by
  have H := Lib.hid h
  clear h
  go_enter Tryd.func33, Tryd.ntmps33
  go_wp2_with (go_at_call 51; refine (ok_nob H.out).mono ?_; rintro e w' ⟨rfl, rfl⟩)
  go_ret3
  exact ⟨rfl, rfl⟩
theorem run_nob (h : Nob w q) (n : Int) : Calls Tryd.prog 22 #[.pointer q, .int .i64 n] w fun e w' => e = .returned (.tuple #[.agg #[.slice none 0 0, .int .i64 0, .int .i64 0], .bool false, .int .i64 1]) ∧ Below w.heap.size w w' := by
  have H := Lib.hid h
  clear h
  go_enter Tryd.func22, Tryd.ntmps22
  go_wp2_with (go_at_call 51; refine (ok_nob (H.out.alloc _)).mono ?_; rintro e w' ⟨rfl, rfl⟩)
  refine bodyPost_ret (v := .tuple #[.agg #[.slice none 0 0, .int .i64 0, .int .i64 0], .bool false, .int .i64 1]) (by simp [results, Tryd.results22, go_sem]) rfl ⟨rfl, ?_⟩
  go_grown
theorem pickv_nob (h : Nob w q) (r : Int) (f : Value) : Calls Tryd.prog 56 #[.pointer q, .int .i64 r, f] w fun e w' => e = .returned (.tuple #[.agg #[.int .i64 0, .int .i64 0], .int .i64 1]) ∧ Below w.heap.size w w' := by
  have H := Lib.hid h
  clear h
  go_enter Tryd.func56, Tryd.ntmps56
  go_wp2_with (go_at_call 51; refine (ok_nob ((H.out.alloc _).alloc _)).mono ?_; rintro e w' ⟨rfl, rfl⟩)
  refine bodyPost_ret (v := .tuple #[.agg #[.int .i64 0, .int .i64 0], .int .i64 1]) (by simp [results, Tryd.results56, go_sem]) rfl ⟨rfl, ?_⟩
  go_grown
theorem picka_nob (h : Nob w q) (r : Int) (f : Value) : Calls Tryd.prog 58 #[.pointer q, .int .i64 r, f] w fun e w' => e = .returned (.tuple #[.slice none 0 0, .int .i64 1]) ∧ Below w.heap.size w w' := by
  have H := Lib.hid h
  clear h
  go_enter Tryd.func58, Tryd.ntmps58
  go_wp2_with (go_at_call 51; refine (ok_nob H.out).mono ?_; rintro e w' ⟨rfl, rfl⟩)
  go_ret2
  exact ⟨rfl, by go_grown⟩
theorem reg_nob (h : Nob w q) (r : Int) : Calls Tryd.prog 30 #[.pointer q, .int .i64 r] w fun e w' => e = .returned (.tuple #[.agg #[.int .i64 0, .int .i64 0], .int .i64 1]) ∧ Below w.heap.size w w' := by
  have H := Lib.hid h
  clear h
  have hmf : ∀ (fn : Fn) (first cap : Array Value) (w : World), (Instr.makeFunc fn first cap).run Tryd.prog w = .ok (.func fn first cap) w := fun _ _ _ _ => rfl
  go_enter Tryd.func30, Tryd.ntmps30
  go_wp2_with (go_at_call 56; refine (pickv_nob ((H.out.alloc _).alloc _) r _).mono ?_; rintro e w2 ⟨rfl, hb⟩; have hsz := hb.size; have z0 : w2.cell? ⟨w.heap.size + 1, 0, none⟩ = some (.int .i64 0) := (hb.cell (p := ⟨w.heap.size + 1, 0, none⟩) ?za).trans ?zb; (case za => simp); (case zb => simp [go_sem]); have z1 : w2.cell? ⟨w.heap.size + 1, 1, none⟩ = some (.int .i64 0) := (hb.cell (p := ⟨w.heap.size + 1, 1, none⟩) ?za).trans ?zb; (case za => simp); (case zb => simp [go_sem]); have y0 : w2.frozen? ⟨w.heap.size + 1, 0, none⟩ = false := (hb.frozen (p := ⟨w.heap.size + 1, 0, none⟩) ?za).trans ?zb; (case za => simp); (case zb => simp [go_sem]); have y1 : w2.frozen? ⟨w.heap.size + 1, 1, none⟩ = false := (hb.frozen (p := ⟨w.heap.size + 1, 1, none⟩) ?za).trans ?zb; (case za => simp); (case zb => simp [go_sem]); have HB := Lib.hid hb; clear hb)
  refine bodyPost_ret (v := .tuple #[.agg #[.int .i64 0, .int .i64 0], .int .i64 1]) (by simp [results, Tryd.results30, go_sem, *]) rfl ⟨rfl, ?_⟩
  exact ((((Below.refl _ w).alloc (Nat.le_refl _) _).alloc (by simp) _).trans (HB.out.mono (by simp; omega))).setCell (by simp) _ |>.setCell (by simp) _
theorem kept_nob (h : Nob w q) (r : Int) : Calls Tryd.prog 32 #[.pointer q, .int .i64 r] w fun e w' => e = .returned (.tuple #[.agg #[.int .i64 0, .int .i64 0], .int .i64 1]) ∧ Below w.heap.size w w' := by
  have H := Lib.hid h
  clear h
  have hmf : ∀ (fn : Fn) (first cap : Array Value) (w : World), (Instr.makeFunc fn first cap).run Tryd.prog w = .ok (.func fn first cap) w := fun _ _ _ _ => rfl
  go_enter Tryd.func32, Tryd.ntmps32
  go_wp2_with (go_at_call 56; refine (pickv_nob ((H.out.alloc _).alloc _) r _).mono ?_; rintro e w2 ⟨rfl, hb⟩; have hsz := hb.size; have z0 : w2.cell? ⟨w.heap.size + 1, 0, none⟩ = some (.int .i64 0) := (hb.cell (p := ⟨w.heap.size + 1, 0, none⟩) ?za).trans ?zb; (case za => simp); (case zb => simp [go_sem]); have z1 : w2.cell? ⟨w.heap.size + 1, 1, none⟩ = some (.int .i64 0) := (hb.cell (p := ⟨w.heap.size + 1, 1, none⟩) ?za).trans ?zb; (case za => simp); (case zb => simp [go_sem]); have y0 : w2.frozen? ⟨w.heap.size + 1, 0, none⟩ = false := (hb.frozen (p := ⟨w.heap.size + 1, 0, none⟩) ?za).trans ?zb; (case za => simp); (case zb => simp [go_sem]); have y1 : w2.frozen? ⟨w.heap.size + 1, 1, none⟩ = false := (hb.frozen (p := ⟨w.heap.size + 1, 1, none⟩) ?za).trans ?zb; (case za => simp); (case zb => simp [go_sem]); have HB := Lib.hid hb; clear hb)
  refine bodyPost_ret (v := .tuple #[.agg #[.int .i64 0, .int .i64 0], .int .i64 1]) (by simp [results, Tryd.results32, go_sem, *]) rfl ⟨rfl, ?_⟩
  exact ((((Below.refl _ w).alloc (Nat.le_refl _) _).alloc (by simp) _).trans (HB.out.mono (by simp; omega))).setCell (by simp) _ |>.setCell (by simp) _
theorem cell_nob (h : Nob w q) (r i : Int) : Calls Tryd.prog 31 #[.pointer q, .int .i64 r, .int .i64 i] w fun e w' => e = .returned (.tuple #[.int .i64 0, .int .i64 1]) ∧ Below w.heap.size w w' := by
  have H := Lib.hid h
  clear h
  have hmf : ∀ (fn : Fn) (first cap : Array Value) (w : World), (Instr.makeFunc fn first cap).run Tryd.prog w = .ok (.func fn first cap) w := fun _ _ _ _ => rfl
  go_enter Tryd.func31, Tryd.ntmps31
  go_wp2_with (go_at_call 58; refine (picka_nob (H.out.alloc _) r _).mono ?_; rintro e w2 ⟨rfl, hb⟩; have HB := Lib.hid hb; clear hb)
  go_ret2
  exact ⟨rfl, (((Below.refl _ w).alloc (Nat.le_refl _) _).trans (HB.out.mono (by simp))).alloc (by have := HB.out.size; simp at this; omega) _⟩
end Go.Proofs.YtfkjkdoloamakaaDoor

/- The specification's Outcomes says that two Outcomes of one content are the same. -/
namespace Go.Proofs.YtfkjkdoloamakaaDoor
open Go.RowKit
set_option linter.unusedVariables false
set_option linter.unusedSimpArgs false
variable {w : World}

/-- a slice that reads as these numbers -/
def RdN (w : World) (v : Value) (l : List Int) : Prop := ∃ F, Row F w v l.length 1 (numV l)
theorem RdN.fr {M : Nat → Prop} {w' : World} {v : Value} {l : List Int} {F : Nat → Prop} (h : Row F w v l.length 1 (numV l)) (hf : Fr M w w') (hn : ∀ g, F g → ¬ M g) : RdN w' v l := ⟨F, h.fr hf hn⟩
theorem RdN.below {w' : World} {v : Value} {l : List Int} (h : RdN w v l) (hb : Below w.heap.size w w') : RdN w' v l := by
  obtain ⟨F, h⟩ := h
  exact ⟨F, h.fr (M := fun _ => False) (Fr.of_below hb) fun _ _ => not_false⟩
theorem RdN.nil (w : World) : RdN w (.slice none 0 0) [] := ⟨fun _ => False, rfl, none, 0, rfl, Nat.le_refl _, by unfold maxLen; omega, fun h => absurd h (by simp)⟩
theorem RdN.shape {v : Value} {l : List Int} (h : RdN w v l) : ∃ A c, v = .slice A l.length c ∧ ∀ j (hj : j < l.length), ∃ g o, A = some ⟨g, o, none⟩ ∧ w.cell? ⟨g, o + j, none⟩ = some (.int .i64 l[j]) := by
  obtain ⟨F, h0, A, c, e, hc, hm, hh⟩ := h
  refine ⟨A, c, e, fun j hj => ?_⟩
  obtain ⟨g, o, e2, _, _, h3⟩ := hh (by omega)
  exact ⟨g, o, e2, h3 j _ (by simp [numV, hj])⟩

set_option maxRecDepth 100000 in
set_option maxHeartbeats 1000000 in
theorem outs_true (k v : Int) (l : List Int) {v1 v2 : Value} (h1 : RdN w v1 l) (h2 : RdN w v2 l) (hl : l.length ≤ 10000000000000) :
    Calls Tryd.prog 15 #[.agg #[v1, .int .i64 k, .int .i64 v], .agg #[v2, .int .i64 k, .int .i64 v]] w fun e w' => e = .returned (.bool true) ∧ Below w.heap.size w w' := by
  obtain ⟨A1, c1, rfl, r1⟩ := h1.shape
  obtain ⟨A2, c2, rfl, r2⟩ := h2.shape
  have H1 := Lib.hid r1
  have H2 := Lib.hid r2
  clear h1 h2 r1 r2
  obtain ⟨W, hW⟩ : ∃ W, W = (w.alloc (.cells #[.slice A1 l.length c1, .int .i64 k, .int .i64 v] 30)).alloc (.cells #[.slice A2 l.length c2, .int .i64 k, .int .i64 v] 30) := ⟨_, rfl⟩
  have hb : Below w.heap.size w W := by rw [hW]; exact ((Below.refl _ _).alloc (Nat.le_refl _) _).alloc (by simp) _
  have z0 : W.cell? ⟨w.heap.size, 0, none⟩ = some (.slice A1 l.length c1) := by rw [hW]; simp [go_sem]
  have z1 : W.cell? ⟨w.heap.size + 1, 0, none⟩ = some (.slice A2 l.length c2) := by rw [hW]; simp [go_sem]
  have HW := Lib.hid hW
  have HB := Lib.hid hb
  clear hW hb
  go_enter Tryd.func15, Tryd.ntmps15
  go_wp2
  rw [← HW.out]
  go_loopw [5] (fun i wr => ∃ (k : Nat) (m : Nat), k ≤ l.length ∧ i = .int .i64 k ∧ wr = W.drewN m) (fun i _ => l.length - (intOf i).toNat)
  case atStart => exact ⟨0, 0, Nat.zero_le _, rfl, rfl⟩
  case round =>
    obtain ⟨j, m, hj, rfl, rfl⟩ := hrel
    by_cases hlt : j < l.length
    · obtain ⟨ga, oa, rfl, ra⟩ := H1.out j hlt
      obtain ⟨gb, ob, rfl, rb⟩ := H2.out j hlt
      have sa : W.cell? ⟨ga, oa + j, none⟩ = some (.int .i64 l[j]) := (HB.out.cell (p := ⟨ga, oa + j, none⟩) (World.block_lt_of_cell? w _ ra)).trans ra
      have sb : W.cell? ⟨gb, ob + j, none⟩ = some (.int .i64 l[j]) := (HB.out.cell (p := ⟨gb, ob + j, none⟩) (World.block_lt_of_cell? w _ rb)).trans rb
      clear ra rb
      go_wp2
      go_quiet (fail)
      go_wp2
      go_roundw
      case rel => exact ⟨j + 1, _, by omega, by go_num, rfl⟩
      case measure => simp [intOf]; omega
    · obtain rfl : j = l.length := by omega
      go_wp2
      go_ret
      exact ⟨rfl, ⟨HB.out.os, HB.out.tape, HB.out.output, HB.out.size, HB.out.block⟩⟩
end Go.Proofs.YtfkjkdoloamakaaDoor
