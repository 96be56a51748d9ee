/- What Run, outcome, ok of an Engine of package run leave. -/
import Derived.Test.YtfkjkdoloamakaaDoorRq
import Derived.Test.YtfkjkdoloamakaaDoorRr
namespace Go.Proofs.YtfkjkdoloamakaaDoor
open Go.RowKit
set_option linter.unusedVariables false
set_option linter.unusedSimpArgs false
variable {F : Nat → Prop} {w0 w : World} {M0 : Nat → Prop} {p : Nat} {U : UnS} {s : St}

theorem step_any (S : StGood U s) (G : UnGood U) (E : EngX layP F w0 M0 w p U s) (V : Env w0) (hM : ¬ M0 0) (hs : s.steps < 1000000000000) :
    Calls Tryd.prog 52 #[.pointer (some ⟨p, 0, none⟩)] w fun e w' => e = .returned (.tuple #[]) ∧ EngX layP F w0 M0 w' p U (s.step U) := by
  have := S.pc
  by_cases he : s.pc = (U.blocks.getD s.bl dBl).ops.length
  · exact step_leave S G E hs he
  · exact step_do S G E V hM hs (by omega)

theorem own_read {base : Nat} {e : TypeId} {size n : Nat} {v : Value} {xs : List Value} (h : w.ownsRow base e size v n xs) : ∃ A c, v = .slice A n c ∧ (A = none → n = 0) ∧ ∀ ad, A = some ad → ∀ j u, xs[j]? = some u → w.cell? (ad.add j) = some u := by
  rcases h.2 with ⟨h0, h1⟩ | ⟨g, cap, cur, rfl, _⟩
  · exact ⟨none, 0, by rw [h0, h1], fun _ => h1, fun ad e => nomatch e⟩
  · refine ⟨some ⟨g, 0, none⟩, cap, rfl, (fun e => nomatch e), fun ad e j u hu => ?_⟩
    injection e with e
    subst e
    have hj : j < xs.length := (List.getElem?_eq_some_iff.mp hu).1
    have := h.cellAt j (by rw [← h.1]; exact hj)
    rw [show (⟨g, 0, none⟩ : Addr).add j = ⟨g, j, none⟩ by simp [Addr.add]; exact fun h => h.symm]
    rw [this, ← hu]
theorem num_one {l : List Int} : ∀ u ∈ numV l, u.oneCell' = true := by
  intro u hu
  simp only [numV, List.mem_map] at hu
  obtain ⟨x, _, rfl⟩ := hu
  rfl
theorem clone_nums {base : Nat} {v : Value} {l : List Int} (h : w.ownsRow base 2 1 v l.length (numV l)) (hn : l.length ≤ 10000000000000) :
    Calls Tryd.prog 64 #[v] w fun e w' => ∃ v', e = .returned v' ∧ w'.ownsRow w.heap.size 2 1 v' l.length (numV l) ∧ Below w.heap.size w w' := by
  obtain ⟨A, c, rfl, h0, h1⟩ := own_read h
  exact clone_i64 A l.length c (numV l) w h0 (by simp [numV]) (by unfold maxLen; omega) (by omega) h1 num_one

theorem ok_any (G : UnGood U) (S : StGood U s) (E : EngX layP F w0 M0 w p U s) :
    Calls Tryd.prog 51 #[.pointer (some ⟨p, 0, none⟩)] w fun e w' => e = .returned (.bool true) ∧ w' = w := by
  obtain ⟨L, Q⟩ := E
  obtain ⟨g, o, c, A, nn, cc, eb, _⟩ := code_at Q.e.code s.bl S.bl
  have h5 := P5 Q.e
  rw [eb] at h5
  have hnb := G.nb
  have hmb := G.mb
  clear Q eb
  go_enter Tryd.func51, Tryd.ntmps51
  go_wp2
  go_ret
  exact ⟨rfl, rfl⟩

theorem own_le {base base' : Nat} {e : TypeId} {size : Nat} {v : Value} {n : Nat} {xs : List Value} (hb : base' ≤ base) (h : w.ownsRow base e size v n xs) : w.ownsRow base' e size v n xs := ⟨h.1, h.2.imp id fun ⟨g, cap, cur, e1, e2, r⟩ => ⟨g, cap, cur, e1, Nat.le_trans hb e2, r⟩⟩
theorem own_setb {base : Nat} {e : TypeId} {size : Nat} {v : Value} {n : Nat} {xs : List Value} {a : Addr} (ha : a.block < base) (u : Value) (h : w.ownsRow base e size v n xs) : (w.setCell a u).ownsRow base e size v n xs := own_far h (fun hk => by
    obtain ⟨h0, _⟩ | ⟨g, cap, cur, rfl, hg, _⟩ := h.2
    · rw [h0] at hk; cases hk
    · injection hk with hk; simp only at hk; omega) u
/-- the kind of an Outcome -/
def kindO (k : Int) : Int := if k = 0 then 3 else k
set_option maxRecDepth 100000 in
theorem outcome_any (S : StGood U s) (E : EngX layP F w0 M0 w p U s) :
    Calls Tryd.prog 40 #[.pointer (some ⟨p, 0, none⟩)] w fun e w' => ∃ v, e = .returned (.agg #[v, .int .i64 (kindO s.kind), .int .i64 s.val]) ∧ w'.ownsRow w.heap.size 2 1 v s.prints.length (numV s.prints) ∧ Below w.heap.size w w' := by
  obtain ⟨L, Q⟩ := E
  have h9 := P9 Q.e
  have h13 := P13 Q.e
  have h14 := P14 Q.e
  have hpl : s.prints.length ≤ 10000000000000 := by have := S.pr; have := S.st1; omega
  have lp : p < w.heap.size := Q.e.blk.lt
  have np : p ≠ w.heap.size := by omega
  have np' := np.symm
  obtain ⟨A, c, hv, _⟩ := own_read Q.e.prints
  have hown := Q.e.prints
  rw [hv] at h9 hown
  have HO := Lib.hid hown
  have HQ := Lib.hid Q
  clear hown Q hv S
  by_cases hk : s.kind = 0
  · rw [hk] at h13
    have HK := Lib.hid (show kindO s.kind = 3 by simp [kindO, hk])
    clear hk
    go_enter Tryd.func40, Tryd.ntmps40
    go_wp2
    go_region_held3 (fun w' => w'.cell? ⟨p, 9, none⟩ = some (.slice A s.prints.length c) ∧ w'.cell? ⟨p, 14, none⟩ = some (.int .i64 s.val)) (first | exact ⟨k0, k1⟩ | (go_keep; done) | trace_state)
      (first | (obtain ⟨s0, s1⟩ := ‹_ ∧ _›; go_at_call 64; refine (clone_nums (own_fr HO.out (Fr.of_below (M := fun _ => False) ?za) ?zb) hpl).mono ?_; (case za => go_grown); (case zb => exact fun _ _ => not_false); rintro e w1 ⟨v, rfl, hv, hb⟩; obtain ⟨A1, c1, rfl⟩ := own_shape hv; have k0 := hb.cell (p := ⟨p, 9, none⟩) ?zc; (case zc => simp; omega); rw [s0] at k0; have k1 := hb.cell (p := ⟨p, 14, none⟩) ?zc; (case zc => simp; omega); rw [s1] at k1; have z0 : w1.cell? ⟨w.heap.size, 0, none⟩ = some (.slice none 0 0) := (hb.cell (p := ⟨w.heap.size, 0, none⟩) ?za).trans ?zb; (case za => simp); (case zb => simp [go_sem]); have y0 : w1.frozen? ⟨w.heap.size, 0, none⟩ = false := (hb.frozen (p := ⟨w.heap.size, 0, none⟩) ?za).trans ?zb; (case za => simp); (case zb => simp [go_sem]); have z1 : w1.cell? ⟨w.heap.size, 1, none⟩ = some (.int .i64 0) := (hb.cell (p := ⟨w.heap.size, 1, none⟩) ?za).trans ?zb; (case za => simp); (case zb => simp [go_sem]); have y1 : w1.frozen? ⟨w.heap.size, 1, none⟩ = false := (hb.frozen (p := ⟨w.heap.size, 1, none⟩) ?za).trans ?zb; (case za => simp); (case zb => simp [go_sem]); have z2 : w1.cell? ⟨w.heap.size, 2, none⟩ = some (.int .i64 0) := (hb.cell (p := ⟨w.heap.size, 2, none⟩) ?za).trans ?zb; (case za => simp); (case zb => simp [go_sem]); have y2 : w1.frozen? ⟨w.heap.size, 2, none⟩ = false := (hb.frozen (p := ⟨w.heap.size, 2, none⟩) ?za).trans ?zb; (case za => simp); (case zb => simp [go_sem]); clear s0 s1))
    go_wp2
    refine bodyPost_ret (v := .agg #[.slice A1 s.prints.length c1, .int .i64 3, .int .i64 s.val]) (by simp [results, Tryd.results40, go_sem, *]) rfl ⟨_, by rw [HK.out], ?_, ?_⟩
    · exact own_le (Nat.le_succ _) (own_setb (Nat.lt_succ_self _) _ (own_setb (Nat.lt_succ_self _) _ (own_setb (Nat.lt_succ_self _) _ (own_le (by simp) hv))))
    · exact ((((Below.refl _ w).alloc (Nat.le_refl _) _).drew.trans (hb.mono (B' := w.heap.size) (by simp))).setCell (Nat.le_refl _) _).setCell (Nat.le_refl _) _ |>.setCell (Nat.le_refl _) _
  · have hk' : (s.kind == 0) = false := by simpa using hk
    have HK := Lib.hid (show kindO s.kind = s.kind by simp [kindO, hk])
    go_enter Tryd.func40, Tryd.ntmps40
    go_wp2
    go_region_held3 (fun w' => w'.cell? ⟨p, 9, none⟩ = some (.slice A s.prints.length c) ∧ w'.cell? ⟨p, 14, none⟩ = some (.int .i64 s.val)) (first | exact ⟨k0, k1⟩ | (go_keep; done) | trace_state)
      (first | (obtain ⟨s0, s1⟩ := ‹_ ∧ _›; go_at_call 64; refine (clone_nums (own_fr HO.out (Fr.of_below (M := fun _ => False) ?za) ?zb) hpl).mono ?_; (case za => go_grown); (case zb => exact fun _ _ => not_false); rintro e w1 ⟨v, rfl, hv, hb⟩; obtain ⟨A1, c1, rfl⟩ := own_shape hv; have k0 := hb.cell (p := ⟨p, 9, none⟩) ?zc; (case zc => simp; omega); rw [s0] at k0; have k1 := hb.cell (p := ⟨p, 14, none⟩) ?zc; (case zc => simp; omega); rw [s1] at k1; have z0 : w1.cell? ⟨w.heap.size, 0, none⟩ = some (.slice none 0 0) := (hb.cell (p := ⟨w.heap.size, 0, none⟩) ?za).trans ?zb; (case za => simp); (case zb => simp [go_sem]); have y0 : w1.frozen? ⟨w.heap.size, 0, none⟩ = false := (hb.frozen (p := ⟨w.heap.size, 0, none⟩) ?za).trans ?zb; (case za => simp); (case zb => simp [go_sem]); have z1 : w1.cell? ⟨w.heap.size, 1, none⟩ = some (.int .i64 0) := (hb.cell (p := ⟨w.heap.size, 1, none⟩) ?za).trans ?zb; (case za => simp); (case zb => simp [go_sem]); have y1 : w1.frozen? ⟨w.heap.size, 1, none⟩ = false := (hb.frozen (p := ⟨w.heap.size, 1, none⟩) ?za).trans ?zb; (case za => simp); (case zb => simp [go_sem]); have z2 : w1.cell? ⟨w.heap.size, 2, none⟩ = some (.int .i64 0) := (hb.cell (p := ⟨w.heap.size, 2, none⟩) ?za).trans ?zb; (case za => simp); (case zb => simp [go_sem]); have y2 : w1.frozen? ⟨w.heap.size, 2, none⟩ = false := (hb.frozen (p := ⟨w.heap.size, 2, none⟩) ?za).trans ?zb; (case za => simp); (case zb => simp [go_sem]); clear s0 s1))
    go_wp2
    refine bodyPost_ret (v := .agg #[.slice A1 s.prints.length c1, .int .i64 s.kind, .int .i64 s.val]) (by simp [results, Tryd.results40, go_sem, *]) rfl ⟨_, by rw [HK.out], ?_, ?_⟩
    · exact own_le (Nat.le_succ _) (own_setb (Nat.lt_succ_self _) _ (own_setb (Nat.lt_succ_self _) _ (own_setb (Nat.lt_succ_self _) _ (own_le (by simp) hv))))
    · exact ((((Below.refl _ w).alloc (Nat.le_refl _) _).drew.trans (hb.mono (B' := w.heap.size) (by simp))).setCell (Nat.le_refl _) _).setCell (Nat.le_refl _) _ |>.setCell (Nat.le_refl _) _
end Go.Proofs.YtfkjkdoloamakaaDoor
