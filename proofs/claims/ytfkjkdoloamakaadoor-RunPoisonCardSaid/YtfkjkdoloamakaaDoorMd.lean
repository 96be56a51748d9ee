import Derived.Test.YtfkjkdoloamakaaDoorRl
/- What act of package run does, joined: the state is St.act. -/
namespace Go.Proofs.YtfkjkdoloamakaaDoor
open Go.RowKit
set_option linter.unusedVariables false
variable {F : Nat → Prop} {w0 w : World} {M0 : Nat → Prop} {p : Nat} {U : UnS} {s : St}

theorem fm_reg (S : StGood U s) (r : Int) : fm (s.reg r) = true := by
  unfold St.reg
  by_cases h : r.toNat < s.regs.length
  · rw [List.getD_eq_getElem?_getD, List.getElem?_eq_getElem h]
    exact S.form _ (List.getElem_mem h)
  · rw [List.getD_eq_getElem?_getD, List.getElem?_eq_none (by omega)]
    rfl
theorem fm_reg3 (S : StGood U s) (a b c : Int) : fm3 (s.reg a) (s.reg b) (s.reg c) = true := by
  simp only [fm3, fm_reg S, Bool.and_self]
theorem ActR_to {r r' : St × Int × Bool} {f : Nat} {args : Array Value} (e : r = r') (h : Calls Tryd.prog f args w (ActR F w0 M0 p U r')) : Calls Tryd.prog f args w (ActR F w0 M0 p U r) := by rw [e]; exact h
theorem elem_in {o : OpI} (h : elemT s o = 0) : 0 ≤ (s.reg o.a).1 ∧ (s.reg o.a).1 < (s.arr o.n).length := by
  unfold elemT at h
  split at h
  · rename_i h1; exact absurd h h1
  · split at h
    · cases h
    · rename_i h2; omega
theorem act_any (S : StGood U s) (G : UnGood U) (E : EngX layP F w0 M0 w p U s) (V : Env w) (o : OpI) (hO : OpGood U o) (hk : known o.k = false) :
    Calls Tryd.prog 101 #[.pointer (some ⟨p, 0, none⟩), opV o] w (ActR F w0 M0 p U (s.act o)) := by
  obtain ⟨k, d, a, b, c, n, g⟩ := o
  have h1 := hO.k1
  have h2 := hO.k2
  simp only at h1 h2 hk
  have hc : k = 16 ∨ k = 17 ∨ k = 18 ∨ k = 19 ∨ k = 20 ∨ k = 21 ∨ k = 22 ∨ k = 25 := by
    have h' : k = 1 ∨ k = 2 ∨ k = 3 ∨ k = 4 ∨ k = 5 ∨ k = 6 ∨ k = 7 ∨ k = 8 ∨ k = 9 ∨ k = 10 ∨ k = 11 ∨ k = 12 ∨ k = 13 ∨ k = 14 ∨ k = 15 ∨ k = 16 ∨ k = 17 ∨ k = 18 ∨ k = 19 ∨ k = 20 ∨ k = 21 ∨ k = 22 ∨ k = 23 ∨ k = 24 ∨ k = 25 := by omega
    rcases h' with rfl | rfl | rfl | rfl | rfl | rfl | rfl | rfl | rfl | rfl | rfl | rfl | rfl | rfl | rfl | rfl | rfl | rfl | rfl | rfl | rfl | rfl | rfl | rfl | rfl <;> first | (exact absurd hk (by decide)) | simp
  rcases hc with rfl | rfl | rfl | rfl | rfl | rfl | rfl | rfl
  · by_cases ht : elemT s ⟨16, d, a, b, c, n, g⟩ = 0
    · obtain ⟨i0, i1⟩ := elem_in ht
      exact ActR_to (by simp [St.act, ht]) (act_load_ok S G E V d a b c n g hO ht i0 i1)
    · exact ActR_to (by simp [St.act, ht]) (act_load_trap S G E V d a b c n g hO _ rfl ht)
  · by_cases ht : elemT s ⟨17, d, a, b, c, n, g⟩ = 0
    · obtain ⟨i0, i1⟩ := elem_in ht
      exact ActR_to (by simp [St.act, ht]) (act_store_ok S G E V d a b c n g hO ht i0 i1)
    · exact ActR_to (by simp [St.act, ht]) (act_store_trap S G E V d a b c n g hO _ rfl ht)
  · exact ActR_to (by simp [St.act]) (act_fetch S G E V d a b c n g hO)
  · exact ActR_to (by simp [St.act]) (act_keep S G E V d a b c n g hO)
  · by_cases ht : (s.reg a).2 = 0
    · exact ActR_to (by simp [St.act, ht]) (act_print_ok S G E V d a b c n g hO ht (by have := S.pr; have := S.st1; omega))
    · exact ActR_to (by simp [St.act, ht]) (act_print_bad S G E V d a b c n g hO _ rfl ht)
  · by_cases ht : (s.reg a).2 = 0
    · by_cases hz : (s.reg a).1 = 0
      · exact ActR_to (by simp [St.act, ht, hz]) (act_exit_no S G E V d a b c n g hO ht hz)
      · exact ActR_to (by simp [St.act, ht, hz]) (act_exit_yes S G E V d a b c n g hO ht hz)
    · exact ActR_to (by simp [St.act, ht]) (act_exit_bad S G E V d a b c n g hO _ rfl ht)
  · by_cases ht : (s.reg a).2 = 0
    · exact ActR_to (by simp [St.act, ht]) (act_check_ok S G E V d a b c n g hO ht)
    · exact ActR_to (by simp [St.act, ht]) (act_check_bad S G E V d a b c n g hO _ rfl ht)
  · by_cases ht : elemT s ⟨25, d, a, b, c, n, g⟩ = 0
    · obtain ⟨i0, i1⟩ := elem_in ht
      exact ActR_to (by simp [St.act, ht]) (act_loads_ok S G E V d a b c n g hO ht i0 i1)
    · exact ActR_to (by simp [St.act, ht]) (act_loads_bad S G E V d a b c n g hO _ rfl ht)

theorem leave_any (S : StGood U s) (G : UnGood U) (E : EngX layP F w0 M0 w p U s) (x : EdS) (hx : EdGood U x) :
    Calls Tryd.prog 77 #[.pointer (some ⟨p, 0, none⟩), edV x] w fun e w' => e = .returned (.tuple #[]) ∧ EngX layP F w0 M0 w' p U (s.leave U x) := by
  obtain ⟨k, a, t, l⟩ := x
  have h1 := hx.k1
  have h2 := hx.k2
  have ha0 := hx.a.1
  have ha1 : a < s.regs.length := by rw [S.regs]; exact hx.a.2
  have ht := hx.t
  have hl := hx.l
  simp only at h1 h2 ha0 ha1 ht hl
  have to : ∀ {s' : St}, s.leave U ⟨k, a, t, l⟩ = s' → (Calls Tryd.prog 77 #[.pointer (some ⟨p, 0, none⟩), edV ⟨k, a, t, l⟩] w fun e w' => e = .returned (.tuple #[]) ∧ EngX layP F w0 M0 w' p U s') → Calls Tryd.prog 77 #[.pointer (some ⟨p, 0, none⟩), edV ⟨k, a, t, l⟩] w fun e w' => e = .returned (.tuple #[]) ∧ EngX layP F w0 M0 w' p U (s.leave U ⟨k, a, t, l⟩) := by
    intro s' e h; rw [e]; exact h
  by_cases k1 : k = 1
  · subst k1
    obtain ⟨t0, t1⟩ := ht (.inl rfl)
    exact to (by simp [St.leave]) (leave_jump G S E a t l ha0 ha1 t0 (by rw [S.seen]; exact t1))
  by_cases hb : (s.reg a).2 = 0
  · have hc : k = 2 ∨ k = 3 ∨ k = 4 := by omega
    rcases hc with rfl | rfl | rfl
    · obtain ⟨t0, t1⟩ := ht (.inr rfl)
      obtain ⟨l0, l1⟩ := hl rfl
      by_cases hz : (s.reg a).1 = 0
      · exact to (by simp [St.leave, hb, hz]) (leave_else G S E a t l ha0 ha1 hb hz l0 (by rw [S.seen]; exact l1))
      · exact to (by simp [St.leave, hb, hz]) (leave_to G S E a t l ha0 ha1 hb hz t0 (by rw [S.seen]; exact t1))
    · exact to (by simp [St.leave, hb]) (leave_return G S E a t l ha0 ha1 hb)
    · exact to (by simp [St.leave, hb]) (leave_throw G S E a t l ha0 ha1 hb)
  · exact to (by simp [St.leave, hb, k1]) (leave_bad G S E a t l ha0 ha1 k _ (by simpa using k1) rfl hb)
end Go.Proofs.YtfkjkdoloamakaaDoor

/- A step leaves a state that fits its unit. -/
namespace Go.Proofs.YtfkjkdoloamakaaDoor
open Go.RowKit
set_option linter.unusedVariables false
set_option linter.unusedSimpArgs false
variable {U : UnS} {s : St}

theorem fm_bothV (k : Int) (a b : Int × Int) (ha : fm a = true) (hb : fm b = true) : fm (bothV k a b) = true := by
  by_cases h0 : bad2 a b = 0
  · by_cases hT : mT (lateK k) b.1 = 0
    · simp [bothV, h0, hT, fm]
    · have hN : mN (lateK k) a.1 b.1 = 0 := by
        unfold mT at hT
        split at hT
        · rename_i h; simp [mN, h.1, h.2]
        · exact absurd rfl hT
      simp only [bothV, h0, if_true, hN]
      split <;> simp [fm]
  · simp only [bothV, h0, if_false]
    split <;> simp [fm]
theorem fm_doV0 (k n : Int) (a b c : Int × Int) (ha : fm a = true) (hb : fm b = true) (hc : fm c = true) : fm (doV0 k n a b c) = true := by
  unfold doV0
  split
  · simp [fm]
  split
  · exact ha
  split
  · split
    · exact ha
    · split
      · exact hb
      · exact hc
  · exact fm_bothV k a b ha hb
theorem fm_bad (t : Int) : fm (0, t) = true := by simp [fm]
theorem fm_num (x : Int) : fm (x, 0) = true := by simp [fm]
theorem fm_kept (S : StGood U s) (i : Nat) : fm (s.kept.getD i (0, 0)) = true := by
  by_cases h : i < s.kept.length
  · rw [List.getD_eq_getElem?_getD, List.getElem?_eq_getElem h]
    exact S.form2 _ (List.getElem_mem h)
  · rw [List.getD_eq_getElem?_getD, List.getElem?_eq_none (by omega)]
    rfl
theorem StGood.blk (S : StGood U s) (G : UnGood U) : BlGood U (U.blocks.getD s.bl dBl) := by
  have := S.bl
  rw [List.getD_eq_getElem?_getD, List.getElem?_eq_getElem this]
  exact G.bls _ (List.getElem_mem this)
theorem StGood.op (S : StGood U s) (G : UnGood U) (h : s.pc < (U.blocks.getD s.bl dBl).ops.length) : OpGood U ((U.blocks.getD s.bl dBl).ops.getD s.pc dOp) := by
  have hb := (S.blk G).ops
  revert h hb
  generalize (U.blocks.getD s.bl dBl).ops = l
  intro h hb
  rw [List.getD_eq_getElem?_getD, List.getElem?_eq_getElem h]
  exact hb _ (List.getElem_mem h)

theorem StGood.enter (S : StGood U s) (b : Nat) (hb : b < U.blocks.length) : StGood U (s.enter b) :=
  { S with
    seen := by simpa [St.enter] using S.seen
    bl := hb
    pc := Nat.zero_le _
    ways := by
      have := S.ways
      simp only [St.enter]
      split
      · simp; omega
      · exact this }
theorem StGood.fin (S : StGood U s) (k v : Int) : StGood U { s with kind := k, val := v } := { S with }
theorem StGood.seenOf (S : StGood U s) (f : Int × Int × Int → Int × Int × Int) : StGood U { s with seen := s.seen.modify s.bl f } := { S with seen := by simpa using S.seen }
theorem StGood.trap (S : StGood U s) (G : UnGood U) (n : Int) : StGood U (s.trap U n) := by
  unfold St.trap
  split
  · exact S.fin 2 n
  · rename_i h
    have hc := (S.blk G).ct
    refine (S.put U.code (n, 0) (fm_num n)).enter _ ?_
    rcases hc with hc | hc
    · omega
    · have := hc.1; have := hc.2; omega
/-- fewer prints than steps: what holds once a step is counted -/
theorem StGood.act (S : StGood U s) (hp : (s.prints.length : Int) < s.steps) (o : OpI) (hO : OpGood U o) : StGood U (s.act o).1 := by
  unfold St.act
  split
  · exact S.put _ _ (fm_kept S _)
  split
  · exact { S with
      kept := by simpa using S.kept
      form2 := fun x hx => (List.mem_or_eq_of_mem_set hx).elim (S.form2 x) (fun h => h ▸ fm_reg S _) }
  split
  · split
    · exact S.put _ _ (fm_bad _)
    split
    · exact S
    split
    · exact { S with
        arrs := by simpa using S.arrs
        alen := fun l hl => by
          obtain ⟨i, hi, e⟩ := List.getElem_of_mem hl
          simp only [List.getElem_modify] at e
          simp only [List.length_modify] at hi
          split at e
          · rw [← e, List.length_set]; exact S.alen _ (List.getElem_mem hi)
          · rw [← e]; exact S.alen _ (List.getElem_mem hi) }
    · exact S.put _ _ (fm_num _)
  split
  · exact S
  split
  · exact { S with pr := by simp; omega }
  split
  · rename_i h
    have := hO.exit h.1
    exact S.enter _ (by obtain ⟨h0, h1⟩ := this; omega)
  · exact S
theorem StGood.doR (S : StGood U s) (hp : (s.prints.length : Int) < s.steps) (o : OpI) (hO : OpGood U o) : StGood U (s.doR o).1 := by
  unfold St.doR
  split
  · exact S
  split
  · exact S
  split
  · split
    · exact S
    · exact S.put _ _ (fm_doV0 _ _ _ _ _ (fm_reg S _) (fm_reg S _) (fm_reg S _))
  · exact S.act hp o hO
theorem StGood.leave (S : StGood U s) (G : UnGood U) (x : EdS) (hx : EdGood U x) : StGood U (s.leave U x) := by
  have k1 := hx.k1
  have k2 := hx.k2
  unfold St.leave
  split
  · exact S.trap G _
  split
  · exact S.trap G _
  split
  · exact S.fin 1 _
  split
  · have := hx.t (by omega)
    exact (S.seenOf _).enter _ (by obtain ⟨h0, h1⟩ := this; omega)
  · rename_i h
    have := hx.l (by omega)
    exact (S.seenOf _).enter _ (by obtain ⟨h0, h1⟩ := this; omega)
theorem St.act_same (s : St) (o : OpI) (h : (s.act o).2.2 = false) : (s.act o).1.bl = s.bl ∧ (s.act o).1.pc = s.pc := by
  unfold St.act at h ⊢
  split
  · exact ⟨rfl, rfl⟩
  split
  · exact ⟨rfl, rfl⟩
  split
  · split
    · exact ⟨rfl, rfl⟩
    split
    · exact ⟨rfl, rfl⟩
    split
    · exact ⟨rfl, rfl⟩
    · exact ⟨rfl, rfl⟩
  split
  · exact ⟨rfl, rfl⟩
  split
  · exact ⟨rfl, rfl⟩
  split
  · rename_i h1 h2 h3 h4 h5 h6
    simp [h1, h2, h3, h4, h6] at h
  · exact ⟨rfl, rfl⟩
theorem St.doR_same (s : St) (o : OpI) (h : (s.doR o).2.2 = false) : (s.doR o).1.bl = s.bl ∧ (s.doR o).1.pc = s.pc := by
  unfold St.doR at h ⊢
  split
  · exact ⟨rfl, rfl⟩
  split
  · exact ⟨rfl, rfl⟩
  split
  · split
    · exact ⟨rfl, rfl⟩
    · exact ⟨rfl, rfl⟩
  · rename_i h1 h2 h3
    rw [if_neg h1, if_neg h2, if_neg h3] at h
    exact St.act_same s o h
theorem StGood.count (S : StGood U s) (h : s.steps < 1000000000000) : StGood U { s with steps := s.steps + 1 } :=
  { S with
    st0 := by have := S.st0; show 0 ≤ s.steps + 1; omega
    st1 := by show s.steps + 1 ≤ _; omega
    pr := by have := S.pr; show (s.prints.length : Int) ≤ s.steps + 1; omega }
theorem StGood.step (S : StGood U s) (G : UnGood U) (h : s.steps < 1000000000000) : StGood U (s.step U) := by
  have S1 := S.count h
  have hp : ((({ s with steps := s.steps + 1 } : St).prints.length : Nat) : Int) < ({ s with steps := s.steps + 1 } : St).steps := by
    have := S.pr; show (s.prints.length : Int) < s.steps + 1; omega
  unfold St.step
  simp only
  split
  · exact S1.leave G _ (S.blk G).ed
  · rename_i hne
    have hlt : s.pc < (U.blocks.getD s.bl dBl).ops.length := by have := S.pc; omega
    have hO := S.op G hlt
    have S2 := S1.doR hp _ hO
    split
    · exact S2.trap G _
    split
    · exact S2
    · rename_i h1 h2
      obtain ⟨e1, e2⟩ := St.doR_same ({ s with steps := s.steps + 1 } : St) _ (Bool.eq_false_iff.mpr h2)
      have hpc : (St.doR ({ s with steps := s.steps + 1 } : St) ((U.blocks.getD s.bl dBl).ops.getD s.pc dOp)).1.pc + 1 ≤ (U.blocks.getD (St.doR ({ s with steps := s.steps + 1 } : St) ((U.blocks.getD s.bl dBl).ops.getD s.pc dOp)).1.bl dBl).ops.length := by
        rw [e1, e2]; exact hlt
      exact { S2 with pc := hpc }
end Go.Proofs.YtfkjkdoloamakaaDoor
