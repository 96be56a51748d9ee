/- What Run of an Engine of package run leaves: the state is St.run. -/
import Derived.Test.YtfkjkdoloamakaaDoorRs
namespace Go.Proofs.YtfkjkdoloamakaaDoor
open Go.RowKit
set_option linter.unusedVariables false
set_option linter.unusedSimpArgs false
variable {F : Nat → Prop} {w0 w : World} {M0 : Nat → Prop} {p : Nat} {U : UnS} {s : St}

theorem St.enter_steps (s : St) (b : Nat) : (s.enter b).steps = s.steps := rfl
theorem St.trap_steps (U : UnS) (s : St) (n : Int) : (s.trap U n).steps = s.steps := by
  unfold St.trap; split <;> rfl
theorem St.act_steps (s : St) (o : OpI) : (s.act o).1.steps = s.steps := by
  unfold St.act; repeat' (first | rfl | split)
theorem St.doR_steps (s : St) (o : OpI) : (s.doR o).1.steps = s.steps := by
  unfold St.doR; repeat' (first | rfl | exact St.act_steps _ _ | split)
theorem St.leave_steps (U : UnS) (s : St) (x : EdS) : (s.leave U x).steps = s.steps := by
  unfold St.leave; repeat' (first | rfl | exact St.trap_steps _ _ _ | split)
theorem St.step_steps (U : UnS) (s : St) : (s.step U).steps = s.steps + 1 := by
  unfold St.step
  simp only
  split
  · rw [St.leave_steps]
  split
  · rw [St.trap_steps, St.doR_steps]
  split
  · rw [St.doR_steps]
  · show (St.doR _ _).1.steps = _
    rw [St.doR_steps]
theorem St.run_stop (U : UnS) : ∀ (n : Nat) (s : St), s.kind ≠ 0 → St.run U n s = s
  | 0, s, _ => rfl
  | n + 1, s, h => if_neg h
theorem St.run_succ (U : UnS) : ∀ (n : Nat) (s : St), St.run U (n + 1) s = if (St.run U n s).kind = 0 then (St.run U n s).step U else St.run U n s
  | 0, s => rfl
  | n + 1, s => by
    by_cases h : s.kind = 0
    · have e1 : St.run U (n + 1 + 1) s = St.run U (n + 1) (s.step U) := if_pos h
      have e2 : St.run U (n + 1) s = St.run U n (s.step U) := if_pos h
      rw [e1, e2]; exact St.run_succ U n (s.step U)
    · rw [St.run_stop U _ s h, St.run_stop U _ s h, if_neg h]
theorem St.run_add (U : UnS) : ∀ (m n : Nat) (s : St), St.run U (m + n) s = St.run U n (St.run U m s)
  | 0, n, s => by rw [Nat.zero_add]; rfl
  | m + 1, n, s => by
    by_cases h : s.kind = 0
    · rw [show m + 1 + n = (m + n) + 1 by omega]
      have e1 : St.run U (m + n + 1) s = St.run U (m + n) (s.step U) := if_pos h
      have e2 : St.run U (m + 1) s = St.run U m (s.step U) := if_pos h
      rw [e1, e2]; exact St.run_add U m n (s.step U)
    · rw [St.run_stop U _ s h, St.run_stop U _ s h, St.run_stop U _ s h]
theorem St.run_steps (U : UnS) : ∀ (n : Nat) (s : St), s.steps ≤ (St.run U n s).steps ∧ (St.run U n s).steps ≤ s.steps + n
  | 0, s => ⟨Int.le_refl _, by show s.steps ≤ s.steps + (0 : Nat); omega⟩
  | n + 1, s => by
    by_cases h : s.kind = 0
    · have e1 : St.run U (n + 1) s = St.run U n (s.step U) := if_pos h
      have := St.run_steps U n (s.step U)
      rw [St.step_steps] at this
      rw [e1]; omega
    · rw [St.run_stop U _ s h]; omega
theorem StGood.run (G : UnGood U) : ∀ (n : Nat) (s : St), StGood U s → s.steps + n ≤ 1000000000000 → StGood U (St.run U n s)
  | 0, s, S, _ => S
  | n + 1, s, S, h => by
    by_cases hk : s.kind = 0
    · have e1 : St.run U (n + 1) s = St.run U n (s.step U) := if_pos hk
      rw [e1]
      exact StGood.run G n _ (S.step G (by omega)) (by rw [St.step_steps]; omega)
    · rw [St.run_stop U _ s hk]; exact S

/-- an engine's own blocks are there -/
theorem Eng.mlt {y : Lay} {L : EngL} (E : Eng y F w p U s L) {b : Nat} (h : L.M p b) : b < w.heap.size := by
  have ho : ∀ {base : Nat} {e : TypeId} {size n : Nat} {v : Value} {xs : List Value}, w.ownsRow base e size v n xs → v.ownBlock = some b → b < w.heap.size := by
    intro base e size n v xs h hb
    rcases h.2 with ⟨h0, _⟩ | ⟨g, cap, cur, rfl, hg, hc, _⟩
    · rw [h0] at hb; cases hb
    · injection hb with hb
      simp only at hb
      subst hb
      rcases Nat.lt_or_ge g w.heap.size with h' | h'
      · exact h'
      · rw [Array.getElem?_eq_none h'] at hc; cases hc
  rcases h with h | h | h | h | h | h | h | h
  · subst h; exact E.blk.lt
  · subst h; exact E.regs.lt
  · subst h; exact E.kept.lt
  · subst h; exact E.seen.lt
  · exact ho E.arrs h
  · exact ho E.prints h
  · exact ho E.ways h
  · obtain ⟨cs, hB⟩ := E.ga_mem h; exact hB.lt
theorem EngX.alloc {y : Lay} (E : EngX y F w0 M0 w p U s) (o : Obj) : EngX y F w0 M0 (w.alloc o) p U s := by
  obtain ⟨L, Q⟩ := E; exact ⟨L, Q.alloc o⟩
theorem EngX.drewN {y : Lay} (E : EngX y F w0 M0 w p U s) (n : Nat) : EngX y F w0 M0 (w.drewN n) p U s := by
  obtain ⟨L, Q⟩ := E; exact ⟨L, Q.drewN n⟩
theorem EngX.below {y : Lay} {w' : World} (E : EngX y F w0 M0 w p U s) (hb : Below w.heap.size w w') : EngX y F w0 M0 w' p U s := by
  obtain ⟨L, Q⟩ := E; exact ⟨L, Q.below hb⟩
/-- an engine and a row that is not one of its own -/
def EngV (F : Nat → Prop) (w0 : World) (M0 : Nat → Prop) (w : World) (p : Nat) (U : UnS) (s : St) (v : Value) : Prop := ∃ L, EngQ layP F w0 M0 w p U s L ∧ ∀ b, L.M p b → v.ownBlock ≠ some b
theorem EngX.beside (E : EngX layP F w0 M0 w p U s) {w' : World} (hb : Below w.heap.size w w') {v : Value} {e : TypeId} {size n : Nat} {xs : List Value} (h : w'.ownsRow w.heap.size e size v n xs) : EngV F w0 M0 w' p U s v := by
  obtain ⟨L, Q⟩ := E
  refine ⟨L, Q.below hb, fun b hM hv => ?_⟩
  have := Q.e.mlt hM
  rcases h.2 with ⟨h0, _⟩ | ⟨g, cap, cur, rfl, hg, hc, _⟩
  · rw [h0] at hv; cases hv
  · injection hv with hv
    simp only at hv
    omega

theorem EngX.rebase {y : Lay} {L : EngL} {w' : World} {s' : St} (Q : EngQ y F w0 M0 w p U s L) (E : EngX y F w (L.M p) w' p U s') : EngX y F w0 M0 w' p U s' := by
  obtain ⟨L', Q'⟩ := E
  exact ⟨L', Q'.e, Q.f.trans Q'.f Q.m, fun b hb => (Q'.m b hb).elim (Q.m b) fun h => .inr (Nat.le_trans Q.f.size h)⟩
theorem EngV.rebase {L : EngL} {w' : World} {s' : St} {v : Value} (Q : EngQ layP F w0 M0 w p U s L) (E : EngV F w (L.M p) w' p U s' v) : EngV F w0 M0 w' p U s' v := by
  obtain ⟨L', Q', h⟩ := E
  exact ⟨L', ⟨Q'.e, Q.f.trans Q'.f Q.m, fun b hb => (Q'.m b hb).elim (Q.m b) fun h => .inr (Nat.le_trans Q.f.size h)⟩, h⟩
theorem EngQ.noForms {y : Lay} {L : EngL} (Q : EngQ y F w0 M0 w p U s L) (V : Env w0) (hM : ¬ M0 0) : ¬ L.M p 0 := fun h => (Q.m _ h).elim hM fun h => by
  have := lt_of_var gForms V; omega

theorem Fr.frozen {M : Nat → Prop} {w w' : World} (h : Fr M w w') {a : Addr} {v : Bool} (hc : w.frozen? a = v) (hl : a.block < w.heap.size) (hn : ¬ M a.block) : w'.frozen? a = v :=
  (World.frozen?_of_block (h.block a.block hl hn)).trans hc
theorem Fr.three (w : World) (g i j k : Nat) (u v x : Value) : Fr (fun b => b = g) w (((w.setCell ⟨g, i, none⟩ u).setCell ⟨g, j, none⟩ v).setCell ⟨g, k, none⟩ x) := Fr.setCell (M := fun b => b = g) (p := ⟨g, k, none⟩) (Fr.two w g i j u v) (.inl rfl) x
theorem EngV.close {L : EngL} {W1 w1 w' : World} {s' : St} {v : Value} (Q1 : EngQ layP F w0 M0 W1 p U s L) (E : EngV F W1 (L.M p) w1 p U s' v) {M : Nat → Prop} (hf : Fr M w1 w') (h1 : ∀ b, M b → w0.heap.size ≤ b) (h2 : ∀ b, M b → ¬ L.M p b ∧ b < W1.heap.size) (hF : ∀ g, F g → ¬ M g) : EngV F w0 M0 w' p U s' v := by
  obtain ⟨L', Q', h⟩ := E
  have hn : ∀ b, L'.M p b → ¬ M b := fun b hb hM => (Q'.m b hb).elim (h2 b hM).1 fun h => by have := (h2 b hM).2; omega
  exact ⟨L', ⟨Q'.e.fr hf hn hF, (Q1.f.trans Q'.f Q1.m).trans hf fun i hi => .inr (h1 i hi), fun b hb => (Q'.m b hb).elim (Q1.m b) fun h => .inr (Nat.le_trans Q1.f.size h)⟩, h⟩

set_option maxRecDepth 100000 in
set_option maxHeartbeats 1000000 in
theorem erun_any (S : StGood U s) (G : UnGood U) (E : EngX layP F w0 M0 w p U s) (V : Env w0) (hM : ¬ M0 0) (n : Int) (h0 : 0 ≤ n) (h1 : n ≤ 4194304) (hs : s.steps ≤ 4194304) :
    Calls Tryd.prog 22 #[.pointer (some ⟨p, 0, none⟩), .int .i64 n] w fun e w' => ∃ v, e = .returned (.tuple #[.agg #[v, .int .i64 (kindO (St.run U n.toNat s).kind), .int .i64 (St.run U n.toNat s).val], .bool (decide ((St.run U n.toNat s).kind ≠ 0)), .int .i64 0]) ∧ w'.ownsRow w.heap.size 2 1 v (St.run U n.toNat s).prints.length (numV (St.run U n.toNat s).prints) ∧ EngV F w0 M0 w' p U (St.run U n.toNat s) v := by
  obtain ⟨L, Q⟩ := E
  have hst := S.st0
  have lp : p < w.heap.size := Q.e.blk.lt
  have np : p ≠ w.heap.size := by omega
  have np' := np.symm
  have h12 := P12 Q.e
  obtain ⟨st, hse⟩ : ∃ st, st = s.steps := ⟨_, rfl⟩
  rw [← hse] at h12 hst hs
  obtain ⟨W1, hW1⟩ : ∃ W1, W1 = w.alloc (.cells #[.slice none 0 0, .int .i64 0, .int .i64 0] 30) := ⟨_, rfl⟩
  have Q1 : EngQ layP F w0 M0 W1 p U s L := hW1 ▸ Q.alloc _
  have V1 : Env W1 := by rw [hW1]; exact (V.fr Q.f hM).below ((Below.refl _ _).alloc (Nat.le_refl _) _)
  have hM1 := Q.noForms V hM
  have hz : w.heap.size < W1.heap.size := by rw [hW1]; simp
  have hnM : ¬ L.M p w.heap.size := fun h => Nat.lt_irrefl _ (Q.e.mlt h)
  have z0 : W1.cell? ⟨w.heap.size, 0, none⟩ = some (.slice none 0 0) := by rw [hW1]; simp [go_sem]
  have z1 : W1.cell? ⟨w.heap.size, 1, none⟩ = some (.int .i64 0) := by rw [hW1]; simp [go_sem]
  have z2 : W1.cell? ⟨w.heap.size, 2, none⟩ = some (.int .i64 0) := by rw [hW1]; simp [go_sem]
  have y0 : W1.frozen? ⟨w.heap.size, 0, none⟩ = false := by rw [hW1]; simp [go_sem]
  have y1 : W1.frozen? ⟨w.heap.size, 1, none⟩ = false := by rw [hW1]; simp [go_sem]
  have y2 : W1.frozen? ⟨w.heap.size, 2, none⟩ = false := by rw [hW1]; simp [go_sem]
  have HG := Lib.hid G
  have HS := Lib.hid S
  have HQ := Lib.hid Q
  have HQ1 := Lib.hid Q1
  have HV := Lib.hid V1
  have HW := Lib.hid hW1
  have HZ := Lib.hid (And.intro z0 (And.intro z1 (And.intro z2 (And.intro y0 (And.intro y1 y2)))))
  have HR := Lib.hid (fun (k : Nat) (hk : (k : Int) ≤ n) => StGood.run G k s S (by omega))
  have HT := Lib.hid (fun (k : Nat) (hk : (k : Int) ≤ n) => show (St.run U k s).steps < 1000000000000 by have := (St.run_steps U k s).2; omega)
  clear G S Q V V1 hW1 Q1 hse z0 z1 z2 y0 y1 y2
  go_enter Tryd.func22, Tryd.ntmps22
  go_wp2_with (go_at_call 51; refine (ok_any HG.out HS.out (HQ.out.alloc _).x).mono ?_; rintro e w1 ⟨rfl, rfl⟩)
  go_loopw [7] (fun i wr => ∃ k : Nat, (k : Int) ≤ n ∧ i = .int .i64 k ∧ EngX layP F W1 (L.M p) wr p U (St.run U k s)) (fun i _ => n.toNat - (intOf i).toNat)
  case atStart => exact ⟨0, h0, rfl, by rw [← HW.out]; exact HQ1.out.e.q.x⟩
  case round =>
    obtain ⟨k, hk, rfl, E'⟩ := hrel
    by_cases hkn : (k : Int) < n
    · obtain ⟨L2, Q2⟩ := E'
      have h13 := P13 Q2.e
      by_cases hkd : (St.run U k s).kind = 0
      · have HKD := Lib.hid hkd
        rw [hkd] at h13
        have HQ2 := Lib.hid Q2
        clear Q2 hkd
        go_wp2_with (go_at_call 52; refine (step_any (HR.out k (Int.le_of_lt hkn)) HG.out HQ2.out.x HV.out hM1 (HT.out k (Int.le_of_lt hkn))).mono ?_; rintro e w2 ⟨rfl, E2⟩)
        go_roundw
        case rel => exact ⟨k + 1, by omega, by go_num, by rw [St.run_succ, if_pos HKD.out]; exact E2⟩
        case measure => simp [intOf]; omega
      · have hrun : St.run U n.toNat s = St.run U k s := by
          rw [show n.toNat = k + (n.toNat - k) by omega, St.run_add, St.run_stop U _ _ hkd]
        have HKD := Lib.hid hkd
        clear hkd
        obtain ⟨kd, hkd'⟩ : ∃ kd, kd = (St.run U k s).kind := ⟨_, rfl⟩
        rw [← hkd'] at h13
        have HKO : Hid ((St.run U k s).kind = kd) := Lib.hid hkd'.symm
        have hsz := Q2.f.size
        have hzr : w.heap.size < wr.heap.size := Nat.lt_of_lt_of_le hz hsz
        have zr0 := Q2.f.cell HZ.out.1 hnM
        have zr1 := Q2.f.cell HZ.out.2.1 hnM
        have zr2 := Q2.f.cell HZ.out.2.2.1 hnM
        have yr0 := Fr.frozen Q2.f HZ.out.2.2.2.1 hz hnM
        have yr1 := Fr.frozen Q2.f HZ.out.2.2.2.2.1 hz hnM
        have yr2 := Fr.frozen Q2.f HZ.out.2.2.2.2.2 hz hnM
        have HQ2 := Lib.hid Q2
        have HS2 := Lib.hid (HR.out k hk)
        have HRUN := Lib.hid hrun
        clear Q2 hrun hkd'
        obtain ⟨s2, hs2⟩ : ∃ s2, s2 = St.run U k s := ⟨_, rfl⟩
        rw [← hs2] at HRUN HKO HQ2 HS2 HKD
        clear hs2
        have hkd : ¬ kd = 0 := by rw [← HKO.out]; exact HKD.out
        have hkb : (kd == 0) = false := by simpa using hkd
        have HD := Lib.hid (show decide (s2.kind ≠ 0) = true by rw [HKO.out]; simpa using hkd)
        go_wp2
        go_region_held3 (fun w' => w'.cell? ⟨p, 13, none⟩ = some (.int .i64 kd)) (first | exact k0 | (go_keep; done))
          (first | (go_at_call 40; refine (outcome_any HS2.out (HQ2.out.drewN 1).x).mono ?_; rintro e w1 ⟨v, rfl, hv, hb⟩; obtain ⟨A1, c1, rfl⟩ := own_shape hv; have k0 := (hb.cell (p := ⟨p, 13, none⟩) ?za).trans h13; (case za => exact Nat.lt_of_lt_of_le lp (Nat.le_of_lt hzr)); have z0 : w1.cell? ⟨w.heap.size, 0, none⟩ = some (.slice none 0 0) := (hb.cell (p := ⟨w.heap.size, 0, none⟩) ?za).trans zr0; (case za => exact hzr); have y0 : w1.frozen? ⟨w.heap.size, 0, none⟩ = false := (hb.frozen (p := ⟨w.heap.size, 0, none⟩) ?za).trans yr0; (case za => exact hzr); have z1 : w1.cell? ⟨w.heap.size, 1, none⟩ = some (.int .i64 0) := (hb.cell (p := ⟨w.heap.size, 1, none⟩) ?za).trans zr1; (case za => exact hzr); have y1 : w1.frozen? ⟨w.heap.size, 1, none⟩ = false := (hb.frozen (p := ⟨w.heap.size, 1, none⟩) ?za).trans yr1; (case za => exact hzr); have z2 : w1.cell? ⟨w.heap.size, 2, none⟩ = some (.int .i64 0) := (hb.cell (p := ⟨w.heap.size, 2, none⟩) ?za).trans zr2; (case za => exact hzr); have y2 : w1.frozen? ⟨w.heap.size, 2, none⟩ = false := (hb.frozen (p := ⟨w.heap.size, 2, none⟩) ?za).trans yr2; (case za => exact hzr)))
        go_wp2
        refine bodyPost_ret (v := .tuple #[.agg #[.slice A1 s2.prints.length c1, .int .i64 (kindO s2.kind), .int .i64 s2.val], .bool true, .int .i64 0]) (by simp [results, Tryd.results22, go_sem, *]) rfl ?_
        rw [HRUN.out]
        refine ⟨_, by rw [HD.out], ?_, EngV.close HQ1.out (EngX.beside (HQ2.out.drewN 1).x hb hv) (M := fun b => b = w.heap.size) (Fr.three _ _ _ _ _ _ _ _) (fun b hb => ?_) (fun b hb => ?_) (fun g hg hb => ?_)⟩
        · exact own_le (Nat.le_of_lt hzr) (own_setb hzr _ (own_setb hzr _ (own_setb hzr _ hv)))
        · subst hb; exact HQ.out.f.size
        · subst hb; exact ⟨hnM, hz⟩
        · subst hb; exact Nat.lt_irrefl _ (HQ.out.e.flt _ hg)
    · have hrun : St.run U n.toNat s = St.run U k s := by rw [show n.toNat = k by omega]
      obtain ⟨L2, Q2⟩ := E'
      have h13 := P13 Q2.e
      obtain ⟨kd, hkd'⟩ : ∃ kd, kd = (St.run U k s).kind := ⟨_, rfl⟩
      rw [← hkd'] at h13
      have HKO : Hid ((St.run U k s).kind = kd) := Lib.hid hkd'.symm
      have hsz := Q2.f.size
      have hzr : w.heap.size < wr.heap.size := Nat.lt_of_lt_of_le hz hsz
      have zr0 := Q2.f.cell HZ.out.1 hnM
      have zr1 := Q2.f.cell HZ.out.2.1 hnM
      have zr2 := Q2.f.cell HZ.out.2.2.1 hnM
      have yr0 := Fr.frozen Q2.f HZ.out.2.2.2.1 hz hnM
      have yr1 := Fr.frozen Q2.f HZ.out.2.2.2.2.1 hz hnM
      have yr2 := Fr.frozen Q2.f HZ.out.2.2.2.2.2 hz hnM
      have HQ2 := Lib.hid Q2
      have HS2 := Lib.hid (HR.out k hk)
      have HRUN := Lib.hid hrun
      clear Q2 hrun hkd'
      obtain ⟨s2, hs2⟩ : ∃ s2, s2 = St.run U k s := ⟨_, rfl⟩
      rw [← hs2] at HRUN HKO HQ2 HS2
      clear hs2
      by_cases hkd : kd = 0
      · subst hkd
        have HD := Lib.hid (show decide (s2.kind ≠ 0) = false by rw [HKO.out]; rfl)
        go_wp2
        go_region_held3 (fun w' => w'.cell? ⟨p, 13, none⟩ = some (.int .i64 0)) (first | exact k0 | (go_keep; done))
          (first | (go_at_call 40; refine (outcome_any HS2.out (HQ2.out.drewN 1).x).mono ?_; rintro e w1 ⟨v, rfl, hv, hb⟩; obtain ⟨A1, c1, rfl⟩ := own_shape hv; have k0 := (hb.cell (p := ⟨p, 13, none⟩) ?za).trans h13; (case za => exact Nat.lt_of_lt_of_le lp (Nat.le_of_lt hzr)); have z0 : w1.cell? ⟨w.heap.size, 0, none⟩ = some (.slice none 0 0) := (hb.cell (p := ⟨w.heap.size, 0, none⟩) ?za).trans zr0; (case za => exact hzr); have y0 : w1.frozen? ⟨w.heap.size, 0, none⟩ = false := (hb.frozen (p := ⟨w.heap.size, 0, none⟩) ?za).trans yr0; (case za => exact hzr); have z1 : w1.cell? ⟨w.heap.size, 1, none⟩ = some (.int .i64 0) := (hb.cell (p := ⟨w.heap.size, 1, none⟩) ?za).trans zr1; (case za => exact hzr); have y1 : w1.frozen? ⟨w.heap.size, 1, none⟩ = false := (hb.frozen (p := ⟨w.heap.size, 1, none⟩) ?za).trans yr1; (case za => exact hzr); have z2 : w1.cell? ⟨w.heap.size, 2, none⟩ = some (.int .i64 0) := (hb.cell (p := ⟨w.heap.size, 2, none⟩) ?za).trans zr2; (case za => exact hzr); have y2 : w1.frozen? ⟨w.heap.size, 2, none⟩ = false := (hb.frozen (p := ⟨w.heap.size, 2, none⟩) ?za).trans yr2; (case za => exact hzr)))
        go_wp2
        refine bodyPost_ret (v := .tuple #[.agg #[.slice A1 s2.prints.length c1, .int .i64 (kindO s2.kind), .int .i64 s2.val], .bool false, .int .i64 0]) (by simp [results, Tryd.results22, go_sem, *]) rfl ?_
        rw [HRUN.out]
        refine ⟨_, by rw [HD.out], ?_, EngV.close HQ1.out (EngX.beside (HQ2.out.drewN 1).x hb hv) (M := fun b => b = w.heap.size) (Fr.three _ _ _ _ _ _ _ _) (fun b hb => ?_) (fun b hb => ?_) (fun g hg hb => ?_)⟩
        · exact own_le (Nat.le_of_lt hzr) (own_setb hzr _ (own_setb hzr _ (own_setb hzr _ hv)))
        · subst hb; exact HQ.out.f.size
        · subst hb; exact ⟨hnM, hz⟩
        · subst hb; exact Nat.lt_irrefl _ (HQ.out.e.flt _ hg)
      · have hkb : (kd == 0) = false := by simpa using hkd
        have HD := Lib.hid (show decide (s2.kind ≠ 0) = true by rw [HKO.out]; simpa using hkd)
        go_wp2
        go_region_held3 (fun w' => w'.cell? ⟨p, 13, none⟩ = some (.int .i64 kd)) (first | exact k0 | (go_keep; done))
          (first | (go_at_call 40; refine (outcome_any HS2.out (HQ2.out.drewN 1).x).mono ?_; rintro e w1 ⟨v, rfl, hv, hb⟩; obtain ⟨A1, c1, rfl⟩ := own_shape hv; have k0 := (hb.cell (p := ⟨p, 13, none⟩) ?za).trans h13; (case za => exact Nat.lt_of_lt_of_le lp (Nat.le_of_lt hzr)); have z0 : w1.cell? ⟨w.heap.size, 0, none⟩ = some (.slice none 0 0) := (hb.cell (p := ⟨w.heap.size, 0, none⟩) ?za).trans zr0; (case za => exact hzr); have y0 : w1.frozen? ⟨w.heap.size, 0, none⟩ = false := (hb.frozen (p := ⟨w.heap.size, 0, none⟩) ?za).trans yr0; (case za => exact hzr); have z1 : w1.cell? ⟨w.heap.size, 1, none⟩ = some (.int .i64 0) := (hb.cell (p := ⟨w.heap.size, 1, none⟩) ?za).trans zr1; (case za => exact hzr); have y1 : w1.frozen? ⟨w.heap.size, 1, none⟩ = false := (hb.frozen (p := ⟨w.heap.size, 1, none⟩) ?za).trans yr1; (case za => exact hzr); have z2 : w1.cell? ⟨w.heap.size, 2, none⟩ = some (.int .i64 0) := (hb.cell (p := ⟨w.heap.size, 2, none⟩) ?za).trans zr2; (case za => exact hzr); have y2 : w1.frozen? ⟨w.heap.size, 2, none⟩ = false := (hb.frozen (p := ⟨w.heap.size, 2, none⟩) ?za).trans yr2; (case za => exact hzr)))
        go_wp2
        refine bodyPost_ret (v := .tuple #[.agg #[.slice A1 s2.prints.length c1, .int .i64 (kindO s2.kind), .int .i64 s2.val], .bool true, .int .i64 0]) (by simp [results, Tryd.results22, go_sem, *]) rfl ?_
        rw [HRUN.out]
        refine ⟨_, by rw [HD.out], ?_, EngV.close HQ1.out (EngX.beside (HQ2.out.drewN 1).x hb hv) (M := fun b => b = w.heap.size) (Fr.three _ _ _ _ _ _ _ _) (fun b hb => ?_) (fun b hb => ?_) (fun g hg hb => ?_)⟩
        · exact own_le (Nat.le_of_lt hzr) (own_setb hzr _ (own_setb hzr _ (own_setb hzr _ hv)))
        · subst hb; exact HQ.out.f.size
        · subst hb; exact ⟨hnM, hz⟩
        · subst hb; exact Nat.lt_irrefl _ (HQ.out.e.flt _ hg)
end Go.Proofs.YtfkjkdoloamakaaDoor
