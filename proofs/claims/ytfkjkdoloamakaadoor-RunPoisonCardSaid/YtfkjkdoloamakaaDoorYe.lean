/- spread of code.May in one statement: nothing is new, and the lists are closed under the operation; or one thing is. -/
import Derived.Test.YtfkjkdoloamakaaDoorYd
namespace Go.Proofs.YtfkjkdoloamakaaDoor
open Go.RowKit
set_option linter.unusedVariables false
set_option linter.unusedSimpArgs false
variable {w : World} {R C : List Bool} {gR gC : Nat}

/-- how many are not yet so -/
def cntF : List Bool → Nat
  | [] => 0
  | b :: r => (if b = true then 0 else 1) + cntF r
theorem cntF_set : ∀ (l : List Bool) (i : Nat), i < l.length → l.getD i false = false → cntF (l.set i true) < cntF l
  | b :: r, 0, _, h => by
    have hb : b = false := h
    subst hb
    simp [cntF]
  | b :: r, i + 1, hi, h => by
    have hi' : i < r.length := by simpa using hi
    have h' : r.getD i false = false := h
    have := cntF_set r i hi' h'
    simp only [List.set_cons_succ, cntF]
    omega
def SpreadP (R C : List Bool) (gR gC : Nat) (o : OpI) (w : World) (x : Ending) (w' : World) : Prop :=
  ∃ R' C' t, x = .returned (.bool t) ∧ Blk w' gR 4 (boolV R').toArray ∧ Blk w' gC 4 (boolV C').toArray ∧ Fr (fun b => b = gR ∨ b = gC) w w' ∧ R'.length = R.length ∧ C'.length = C.length ∧ (t = false → R' = R ∧ C' = C ∧ ClosedO R C o) ∧ (t = true → cntF R' + cntF C' < cntF R + cntF C)

set_option maxHeartbeats 1000000 in
theorem spread_any (bR : Blk w gR 4 (boolV R).toArray) (bC : Blk w gC 4 (boolV C).toArray) (hRC : gR ≠ gC) (V : Env w) (hn : R.length ≤ 4096) (hnC : C.length ≤ 4096) (k d a b c n g : Int) (hk1 : 1 ≤ k) (hk2 : k ≤ 25) (hd : inR d R.length) (ha : inR a R.length) (hb : inR b R.length) (hc : inR c R.length) (hm : k = 18 ∨ k = 19 → inR n C.length) :
    Calls Tryd.prog 87 #[.agg #[.slice (some ⟨gR, 0, none⟩) R.length R.length, .slice (some ⟨gC, 0, none⟩) C.length C.length], .agg #[.int .i64 k, .int .i64 d, .int .i64 a, .int .i64 b, .int .i64 c, .int .i64 n, .int .i64 g]] w (SpreadP R C gR gC ⟨k, d, a, b, c, n, g⟩ w) := by
  obtain ⟨x0, h0⟩ : ∃ x : Int × Int × Int, x = (bits .and .i64 (usesK k) 2, bits .and .i64 (usesK k) 4, bits .and .i64 (usesK k) 8) := ⟨_, rfl⟩
  have e0 : bits .and .i64 (usesK k) 2 = x0.1 := by rw [h0]
  have e1 : bits .and .i64 (usesK k) 4 = x0.2.1 := by rw [h0]
  have e2 : bits .and .i64 (usesK k) 8 = x0.2.2 := by rw [h0]
  have no : ∀ {P : Array Value}, Calls Tryd.prog 87 P w (fun x w' => x = .returned (.bool false) ∧ Below w.heap.size w w') → ClosedO R C ⟨k, d, a, b, c, n, g⟩ → Calls Tryd.prog 87 P w (SpreadP R C gR gC ⟨k, d, a, b, c, n, g⟩ w) := fun h hcl => h.mono fun x w' ⟨e, hbel⟩ =>
    ⟨R, C, false, e, bR.fr (Fr.of_below (M := fun _ => False) hbel) not_false, bC.fr (Fr.of_below (M := fun _ => False) hbel) not_false, Fr.of_below hbel, rfl, rfl, fun _ => ⟨rfl, rfl, hcl⟩, fun h => by cases h⟩
  have setR : ∀ {P : Array Value}, mb R d = false → Calls Tryd.prog 87 P w (fun x w' => x = .returned (.bool true) ∧ Blk w' gR 4 (boolV (R.set d.toNat true)).toArray ∧ Blk w' gC 4 (boolV C).toArray ∧ Fr (fun b => b = gR ∨ b = gC) w w') → Calls Tryd.prog 87 P w (SpreadP R C gR gC ⟨k, d, a, b, c, n, g⟩ w) := fun hf h => h.mono fun x w' ⟨e, h1, h2, h3⟩ =>
    ⟨R.set d.toNat true, C, true, e, h1, h2, h3, by simp, rfl, (fun h => by cases h), fun _ => by have := cntF_set R d.toNat (by have := hd.1; have := hd.2; omega) hf; omega⟩
  have setC : ∀ {P : Array Value}, inR n C.length → mb C n = false → Calls Tryd.prog 87 P w (fun x w' => x = .returned (.bool true) ∧ Blk w' gC 4 (boolV (C.set n.toNat true)).toArray ∧ Blk w' gR 4 (boolV R).toArray ∧ Fr (fun b => b = gR ∨ b = gC) w w') → Calls Tryd.prog 87 P w (SpreadP R C gR gC ⟨k, d, a, b, c, n, g⟩ w) := fun hn' hf h => h.mono fun x w' ⟨e, h1, h2, h3⟩ =>
    ⟨R, C.set n.toNat true, true, e, h2, h1, h3, rfl, by simp, (fun h => by cases h), fun _ => by have := cntF_set C n.toNat (by have := hn'.1; have := hn'.2; omega) hf; omega⟩
  rcases Bool.eq_false_or_eq_true (mb R d) with hdt | hdt
  · -- the register may be poison already
    have hcl : (k = 19 → mb R a = true → mb C n = true) → ClosedO R C ⟨k, d, a, b, c, n, g⟩ := fun h => ⟨fun _ => hdt, h, fun _ _ => hdt, fun _ _ _ => hdt⟩
    by_cases k23 : k = 23
    · subst k23; exact no (spread_23_old bR bC hRC V hn hnC d a b c n g hd hdt hk1 hk2 ha hb hc _ x0 e0 e1 e2 rfl) (hcl fun e => absurd e (by decide))
    by_cases k24 : k = 24
    · subst k24; exact no (spread_24_old bR bC hRC V hn hnC d a b c n g hd hdt hk1 hk2 ha hb hc _ x0 e0 e1 e2 rfl) (hcl fun e => absurd e (by decide))
    by_cases k25 : k = 25
    · subst k25; exact no (spread_25_old bR bC hRC V hn hnC d a b c n g hd hdt hk1 hk2 ha hb hc _ x0 e0 e1 e2 rfl) (hcl fun e => absurd e (by decide))
    by_cases k19 : k = 19
    · subst k19
      have hm' := hm (.inr rfl)
      rcases Bool.eq_false_or_eq_true (anyB R (rdU x0 a b c 3)) with hbd | hbd
      · rcases Bool.eq_false_or_eq_true (mb C n) with hmt | hmt
        · exact no (spread_19_old bR bC hRC V hn hnC d a b c n g hm' hmt hk1 hk2 ha hb hc x0 e0 e1 e2 hbd) (hcl fun _ _ => hmt)
        · exact setC hm' hmt (spread_19_new bR bC hRC V hn hnC d a b c n g hm' hmt hk1 hk2 ha hb hc x0 e0 e1 e2 hbd)
      · refine no (spread_19_no bR bC hRC V hn hnC d a b c n g hm' (Bool.eq_false_or_eq_true _) hk1 hk2 ha hb hc x0 e0 e1 e2 hbd) (hcl fun _ hra => ?_)
        rw [anyB_yes ((reads_in 19 a b c hk1 hk2 x0 e0 e1 e2).1 (by decide)) hra] at hbd
        cases hbd
    by_cases k18 : k = 18
    · subst k18
      have hm' := hm (.inl rfl)
      rcases Bool.eq_false_or_eq_true (mb C n) with hmt | hmt
      · exact no (spread_18_old bR bC hRC V hn hnC d a b c n g hm' hmt hd hdt hk1 hk2 ha hb hc _ x0 e0 e1 e2 rfl) (hcl fun e => absurd e (by decide))
      · exact no (spread_18_no bR bC hRC V hn hnC d a b c n g hm' hmt hk1 hk2 ha hb hc _ x0 e0 e1 e2 rfl) (hcl fun e => absurd e (by decide))
    have b23 : (k == 23) = false := by simpa using k23
    have b24 : (k == 24) = false := by simpa using k24
    have b25 : (k == 25) = false := by simpa using k25
    have b19 : (k == 19) = false := by simpa using k19
    have b18 : (k == 18) = false := by simpa using k18
    have hcl' := hcl fun e => absurd e k19
    by_cases p1 : k < 2
    · exact no (spread_n_lo bR bC hRC V hn hnC k d a b c n g b23 b24 b25 b19 b18 p1 hk1 hk2 ha hb hc _ x0 e0 e1 e2 rfl) hcl'
    by_cases p2 : 13 < k
    · exact no (spread_n_hi bR bC hRC V hn hnC k d a b c n g b23 b24 b25 b19 b18 (by omega) p2 hk1 hk2 ha hb hc _ x0 e0 e1 e2 rfl) hcl'
    rcases Bool.eq_false_or_eq_true (anyB R (rdU x0 a b c 3)) with hbd | hbd
    · exact no (spread_p_old bR bC hRC V hn hnC k d a b c n g b23 b24 b25 b19 b18 (by omega) (by omega) hd hdt hk1 hk2 ha hb hc x0 e0 e1 e2 hbd) hcl'
    · exact no (spread_p_no bR bC hRC V hn hnC k d a b c n g b23 b24 b25 b19 b18 (by omega) (by omega) hk1 hk2 ha hb hc x0 e0 e1 e2 hbd) hcl'
  · by_cases k23 : k = 23
    · subst k23; exact setR hdt (spread_23_new bR bC hRC V hn hnC d a b c n g hd hdt hk1 hk2 ha hb hc _ x0 e0 e1 e2 rfl)
    by_cases k24 : k = 24
    · subst k24; exact setR hdt (spread_24_new bR bC hRC V hn hnC d a b c n g hd hdt hk1 hk2 ha hb hc _ x0 e0 e1 e2 rfl)
    by_cases k25 : k = 25
    · subst k25; exact setR hdt (spread_25_new bR bC hRC V hn hnC d a b c n g hd hdt hk1 hk2 ha hb hc _ x0 e0 e1 e2 rfl)
    by_cases k19 : k = 19
    · subst k19
      have hm' := hm (.inr rfl)
      have hcl : (mb R a = true → mb C n = true) → ClosedO R C ⟨19, d, a, b, c, n, g⟩ := fun h => ⟨(fun e => by simp only at e; omega), fun _ => h, fun e => absurd (show (19 : Int) = 18 from e) (by decide), fun _ e => absurd (show (19 : Int) ≤ 13 from e) (by decide)⟩
      rcases Bool.eq_false_or_eq_true (anyB R (rdU x0 a b c 3)) with hbd | hbd
      · rcases Bool.eq_false_or_eq_true (mb C n) with hmt | hmt
        · exact no (spread_19_old bR bC hRC V hn hnC d a b c n g hm' hmt hk1 hk2 ha hb hc x0 e0 e1 e2 hbd) (hcl fun _ => hmt)
        · exact setC hm' hmt (spread_19_new bR bC hRC V hn hnC d a b c n g hm' hmt hk1 hk2 ha hb hc x0 e0 e1 e2 hbd)
      · refine no (spread_19_no bR bC hRC V hn hnC d a b c n g hm' (Bool.eq_false_or_eq_true _) hk1 hk2 ha hb hc x0 e0 e1 e2 hbd) (hcl fun hra => ?_)
        rw [anyB_yes ((reads_in 19 a b c hk1 hk2 x0 e0 e1 e2).1 (by decide)) hra] at hbd
        cases hbd
    by_cases k18 : k = 18
    · subst k18
      have hm' := hm (.inl rfl)
      rcases Bool.eq_false_or_eq_true (mb C n) with hmt | hmt
      · exact setR hdt (spread_18_new bR bC hRC V hn hnC d a b c n g hm' hmt hd hdt hk1 hk2 ha hb hc _ x0 e0 e1 e2 rfl)
      · exact no (spread_18_no bR bC hRC V hn hnC d a b c n g hm' hmt hk1 hk2 ha hb hc _ x0 e0 e1 e2 rfl) ⟨(fun e => by simp only at e; omega), fun e => absurd (show (18 : Int) = 19 from e) (by decide), (fun _ h => by rw [hmt] at h; cases h), fun _ e => absurd (show (18 : Int) ≤ 13 from e) (by decide)⟩
    have b23 : (k == 23) = false := by simpa using k23
    have b24 : (k == 24) = false := by simpa using k24
    have b25 : (k == 25) = false := by simpa using k25
    have b19 : (k == 19) = false := by simpa using k19
    have b18 : (k == 18) = false := by simpa using k18
    have hcl : (2 ≤ k → k ≤ 13 → readsMay R ⟨k, d, a, b, c, n, g⟩ → mb R d = true) → ClosedO R C ⟨k, d, a, b, c, n, g⟩ := fun h => ⟨(fun e => by simp only at e; omega), fun e => absurd e k19, fun e => absurd e k18, h⟩
    by_cases p1 : k < 2
    · exact no (spread_n_lo bR bC hRC V hn hnC k d a b c n g b23 b24 b25 b19 b18 p1 hk1 hk2 ha hb hc _ x0 e0 e1 e2 rfl) (hcl fun h _ => by omega)
    by_cases p2 : 13 < k
    · exact no (spread_n_hi bR bC hRC V hn hnC k d a b c n g b23 b24 b25 b19 b18 (by omega) p2 hk1 hk2 ha hb hc _ x0 e0 e1 e2 rfl) (hcl fun _ h => by omega)
    rcases Bool.eq_false_or_eq_true (anyB R (rdU x0 a b c 3)) with hbd | hbd
    · exact setR hdt (spread_p_new bR bC hRC V hn hnC k d a b c n g b23 b24 b25 b19 b18 (by omega) (by omega) hd hdt hk1 hk2 ha hb hc x0 e0 e1 e2 hbd)
    · refine no (spread_p_no bR bC hRC V hn hnC k d a b c n g b23 b24 b25 b19 b18 (by omega) (by omega) hk1 hk2 ha hb hc x0 e0 e1 e2 hbd) (hcl fun _ _ hr => ?_)
      rw [reads_any hk1 hk2 x0 e0 e1 e2 hr] at hbd
      cases hbd
end Go.Proofs.YtfkjkdoloamakaaDoor
