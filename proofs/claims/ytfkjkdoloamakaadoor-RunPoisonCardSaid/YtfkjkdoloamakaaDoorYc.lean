/- Whether one of some registers may be poison, as spread of code.May asks it: its closure, IndexFunc, ContainsFunc; what Read lists. -/
import Derived.Test.YtfkjkdoloamakaaDoorYb
import Derived.Test.YtfkjkdoloamakaaDoorMe
namespace Go.Proofs.YtfkjkdoloamakaaDoor
open Go.RowKit
set_option linter.unusedVariables false
set_option linter.unusedSimpArgs false
variable {w : World} {F : Nat → Prop} {R : List Bool} {AR : Option Addr} {cR : Nat}

def anyB (R : List Bool) (l : List Int) : Bool := l.any (fun r => mb R r)
theorem anyB_yes {l : List Int} {r : Int} (h : r ∈ l) (hr : mb R r = true) : anyB R l = true := List.any_eq_true.2 ⟨r, h, hr⟩
theorem anyB_no {l : List Int} (h : ∀ j (hj : j < l.length), mb R l[j] = false) : anyB R l = false := by
  rw [anyB, List.any_eq_false]
  intro r hr
  obtain ⟨j, hj, rfl⟩ := List.getElem_of_mem hr
  rw [h j hj]; exact Bool.false_ne_true

set_option maxRecDepth 100000 in
theorem mayC_any (hr : Row F w (.slice AR R.length cR) R.length 1 (boolV R)) (hn : R.length ≤ 4096) (q : Nat) (hq : w.cell? ⟨q, 0, none⟩ = some (.slice AR R.length cR)) (r : Int) (h0 : 0 ≤ r) (h1 : r < R.length) :
    Calls Tryd.prog 105 #[.int .i64 r, .pointer (some ⟨q, 0, none⟩)] w fun x w' => x = .returned (.bool (mb R r)) ∧ w = w' := by
  obtain ⟨g, o, rfl, hc⟩ := bool_at hr h0 h1
  obtain ⟨b, hb⟩ : ∃ b, b = mb R r := ⟨_, rfl⟩
  rw [← hb] at hc ⊢
  clear hr hb
  go_enter Tryd.func105, Tryd.ntmps105
  go_wp2
  go_ret
  exact ⟨rfl, rfl⟩
set_option maxRecDepth 100000 in
theorem mayI_any (hr : Row F w (.slice AR R.length cR) R.length 1 (boolV R)) (hn : R.length ≤ 4096) (q : Nat) (hq : w.cell? ⟨q, 0, none⟩ = some (.slice AR R.length cR)) (A : Option Addr) (cv : Nat) (l : List Int) (hl : l.length ≤ 16) (h : ∀ n ∈ l, inR n R.length) (hc : 0 < l.length → ∃ g o, A = some ⟨g, o, none⟩ ∧ ∀ j (hj : j < l.length), w.cell? ⟨g, o + j, none⟩ = some (.int .i64 l[j])) :
    Calls Tryd.prog 110 #[.slice A l.length cv, .func (.func 105) #[] #[.pointer (some ⟨q, 0, none⟩)]] w fun x w' => ∃ i : Int, x = .returned (.int .i64 i) ∧ decide (0 ≤ i) = anyB R l ∧ w = w' := by
  have H := Lib.hid h
  have HC := Lib.hid hc
  have KC := Lib.hid (fun (r : Int) (h0 : 0 ≤ r) (h1 : r < R.length) => mayC_any hr hn q hq r h0 h1)
  clear h hc hr hq
  go_enter Tryd.func110, Tryd.ntmps110
  go_wp2
  go_loop [8] (fun i => ∃ k : Nat, k ≤ l.length ∧ i = .int .i64 k ∧ Hid (∀ j (hj : j < l.length), j < k → mb R l[j] = false)) (fun i => l.length - (intOf i).toNat)
  case atStart => exact ⟨0, Nat.zero_le _, rfl, Lib.hid fun j _ hj => absurd hj (Nat.not_lt_zero _)⟩
  case round =>
    obtain ⟨k, hk, rfl, HN⟩ := hrel
    by_cases hlt : k < l.length
    · obtain ⟨g, o, rfl, hcc⟩ := HC.out (by omega)
      have hck := hcc k hlt
      obtain ⟨b1, b2⟩ := H.out _ (List.getElem_mem hlt)
      obtain ⟨r, hre⟩ : ∃ r, r = l[k] := ⟨_, rfl⟩
      rw [← hre] at hck b1 b2
      have kc := KC.out r b1 b2
      obtain ⟨t, ht⟩ : ∃ t, t = mb R r := ⟨_, rfl⟩
      rw [← ht] at kc
      have KR := Lib.hid kc
      have HT := Lib.hid ht
      have HRE := Lib.hid hre
      clear hcc hre kc ht
      cases t
      · go_wp2_with (go_at_call 105; refine (KR.out).mono ?_; rintro x w3 ⟨rfl, rfl⟩)
        go_round
        case rel => exact ⟨k + 1, by omega, by go_num, Lib.hid fun j hj hjk => (Nat.lt_or_eq_of_le (Nat.le_of_lt_succ hjk)).elim (fun h => HN.out j hj h) (fun h => by subst h; rw [← HRE.out]; exact HT.out.symm)⟩
        case measure => simp [intOf]; omega
      · go_wp2_with (go_at_call 105; refine (KR.out).mono ?_; rintro x w3 ⟨rfl, rfl⟩)
        go_ret
        refine ⟨k, rfl, ?_, rfl⟩
        rw [anyB_yes (r := r) (by rw [HRE.out]; exact List.getElem_mem _) HT.out.symm]
        exact decide_eq_true (by omega)
    · have ha : anyB R l = false := anyB_no fun j hj => HN.out j hj (by omega)
      have HA := Lib.hid ha
      clear ha
      go_wp2
      go_ret
      exact ⟨-1, rfl, by rw [HA.out]; decide, rfl⟩
set_option maxRecDepth 100000 in
theorem mayF_any (hr : Row F w (.slice AR R.length cR) R.length 1 (boolV R)) (hn : R.length ≤ 4096) (q : Nat) (hq : w.cell? ⟨q, 0, none⟩ = some (.slice AR R.length cR)) (A : Option Addr) (cv : Nat) (l : List Int) (hl : l.length ≤ 16) (h : ∀ n ∈ l, inR n R.length) (hc : 0 < l.length → ∃ g o, A = some ⟨g, o, none⟩ ∧ ∀ j (hj : j < l.length), w.cell? ⟨g, o + j, none⟩ = some (.int .i64 l[j])) :
    Calls Tryd.prog 92 #[.slice A l.length cv, .func (.func 105) #[] #[.pointer (some ⟨q, 0, none⟩)]] w fun x w' => x = .returned (.bool (anyB R l)) ∧ w = w' := by
  have H := Lib.hid (mayI_any hr hn q hq A cv l hl h hc)
  clear h hc hr hq
  go_enter Tryd.func92, Tryd.ntmps92
  go_wp2_with (go_at_call 110; refine H.out.mono ?_; rintro x w3 ⟨i, rfl, hi, rfl⟩; have HI := Lib.hid hi; clear hi)
  go_ret
  exact ⟨by rw [← HI.out]; rfl, rfl⟩
/-- Read lists what an operation reads -/
theorem reads_in (k a b c : Int) (h1 : 1 ≤ k) (h2 : k ≤ 25) (x : Int × Int × Int) (e0 : bits .and .i64 (usesK k) 2 = x.1) (e1 : bits .and .i64 (usesK k) 4 = x.2.1) (e2 : bits .and .i64 (usesK k) 8 = x.2.2) :
    (hasA k = true → a ∈ rdU x a b c 3) ∧ (hasB k = true → b ∈ rdU x a b c 3) ∧ (hasC k = true → c ∈ rdU x a b c 3) := by
  have h3 : k = 1 ∨ k = 2 ∨ k = 3 ∨ k = 4 ∨ k = 5 ∨ k = 6 ∨ k = 7 ∨ k = 8 ∨ k = 9 ∨ k = 10 ∨ k = 11 ∨ k = 12 ∨ k = 13 ∨ k = 14 ∨ k = 15 ∨ k = 16 ∨ k = 17 ∨ k = 18 ∨ k = 19 ∨ k = 20 ∨ k = 21 ∨ k = 22 ∨ k = 23 ∨ k = 24 ∨ k = 25 := by omega
  have q0 : hasA k = true → ¬ bits .and .i64 (usesK k) 2 = 0 := by
    rcases h3 with rfl | rfl | rfl | rfl | rfl | rfl | rfl | rfl | rfl | rfl | rfl | rfl | rfl | rfl | rfl | rfl | rfl | rfl | rfl | rfl | rfl | rfl | rfl | rfl | rfl <;> decide
  have q1 : hasB k = true → ¬ bits .and .i64 (usesK k) 4 = 0 := by
    rcases h3 with rfl | rfl | rfl | rfl | rfl | rfl | rfl | rfl | rfl | rfl | rfl | rfl | rfl | rfl | rfl | rfl | rfl | rfl | rfl | rfl | rfl | rfl | rfl | rfl | rfl <;> decide
  have q2 : hasC k = true → ¬ bits .and .i64 (usesK k) 8 = 0 := by
    rcases h3 with rfl | rfl | rfl | rfl | rfl | rfl | rfl | rfl | rfl | rfl | rfl | rfl | rfl | rfl | rfl | rfl | rfl | rfl | rfl | rfl | rfl | rfl | rfl | rfl | rfl <;> decide
  rw [e0] at q0
  rw [e1] at q1
  rw [e2] at q2
  have er : rdU x a b c 3 = (if x.1 = 0 then [] else [a]) ++ (if x.2.1 = 0 then [] else [b]) ++ (if x.2.2 = 0 then [] else [c]) := rfl
  rw [er]
  refine ⟨fun h => ?_, fun h => ?_, fun h => ?_⟩
  · rw [if_neg (q0 h)]; simp
  · rw [if_neg (q1 h)]; simp
  · rw [if_neg (q2 h)]; simp
theorem reads_any {k d a b c n g : Int} (h1 : 1 ≤ k) (h2 : k ≤ 25) (x : Int × Int × Int) (e0 : bits .and .i64 (usesK k) 2 = x.1) (e1 : bits .and .i64 (usesK k) 4 = x.2.1) (e2 : bits .and .i64 (usesK k) 8 = x.2.2) (h : readsMay R ⟨k, d, a, b, c, n, g⟩) : anyB R (rdU x a b c 3) = true := by
  obtain ⟨i1, i2, i3⟩ := reads_in k a b c h1 h2 x e0 e1 e2
  rcases h with ⟨hh, hr⟩ | ⟨hh, hr⟩ | ⟨hh, hr⟩
  · exact anyB_yes (i1 hh) hr
  · exact anyB_yes (i2 hh) hr
  · exact anyB_yes (i3 hh) hr
end Go.Proofs.YtfkjkdoloamakaaDoor
