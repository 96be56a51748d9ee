/- Trap and EndTrap of package code answer true at whatever may trap. -/
import Derived.Test.YtfkjkdoloamakaaDoorYa
import Derived.Test.YtfkjkdoloamakaaDoorMg
import Derived.Deep.CutBlock
namespace Go.Proofs.YtfkjkdoloamakaaDoor
open Go.RowKit
set_option linter.unusedVariables false
set_option linter.unusedSimpArgs false
variable {w : World} {F : Nat → Prop} {R : List Bool} {AR AC : Option Addr} {cR nC cC : Nat}

def boolV (l : List Bool) : List Value := l.map Value.bool
theorem bool_at {W : World} {A : Option Addr} {c : Nat} (h : Row F W (.slice A R.length c) R.length 1 (boolV R)) {i : Int} (h0 : 0 ≤ i) (h1 : i < R.length) : ∃ g o, A = some ⟨g, o, none⟩ ∧ W.cell? ⟨g, o + i.toNat, none⟩ = some (.bool (mb R i)) := by
  have hi : i.toNat < R.length := by omega
  obtain ⟨_, A', c', e, _, _, hh⟩ := h
  injection e with e1 _ _
  subst e1
  obtain ⟨g, o, eA, _, _, hc⟩ := hh (by omega)
  refine ⟨g, o, eA, hc i.toNat _ ?_⟩
  unfold boolV mb
  rw [List.getElem?_map, List.getElem?_eq_getElem hi, List.getD_eq_getElem?_getD, List.getElem?_eq_getElem hi]
  rfl

set_option maxRecDepth 100000 in
set_option maxHeartbeats 4000000 in
theorem trap_yes (hr : Row F w (.slice AR R.length cR) R.length 1 (boolV R)) (hn : R.length ≤ 4096) (k d a b c n g : Int) (hg : g = -1 ∨ inR g R.length) (ha : inR a R.length) (h : opMay R ⟨k, d, a, b, c, n, g⟩) :
    Calls Tryd.prog 72 #[.agg #[.slice AR R.length cR, .slice AC nC cC], .agg #[.int .i64 k, .int .i64 d, .int .i64 a, .int .i64 b, .int .i64 c, .int .i64 n, .int .i64 g]] w fun x w' => x = .returned (.bool true) ∧ Below w.heap.size w w' := by
  obtain ⟨ha0, ha1⟩ := ha
  obtain ⟨W0, hW0⟩ : ∃ W0, W0 = (w.alloc (.cells #[.slice AR R.length cR, .slice AC nC cC] 122)).alloc (.cells #[.int .i64 k, .int .i64 d, .int .i64 a, .int .i64 b, .int .i64 c, .int .i64 n, .int .i64 g] 76) := ⟨_, rfl⟩
  have hb0 : Below w.heap.size w W0 := by rw [hW0]; exact ((Below.refl _ _).alloc (Nat.le_refl _) _).alloc (by simp) _
  have bM : Blk W0 w.heap.size 122 #[.slice AR R.length cR, .slice AC nC cC] := by rw [hW0]; exact (blk_new w rfl _ _).alloc _
  have bO : Blk W0 (w.heap.size + 1) 76 #[.int .i64 k, .int .i64 d, .int .i64 a, .int .i64 b, .int .i64 c, .int .i64 n, .int .i64 g] := by rw [hW0]; exact blk_new _ (by simp) _ _
  have m0 : W0.cell? ⟨w.heap.size, 0, none⟩ = some (.slice AR R.length cR) := (bM.cell 0).trans rfl
  have m1 : W0.cell? ⟨w.heap.size, 1, none⟩ = some (.slice AC nC cC) := (bM.cell 1).trans rfl
  have hr0 := hr.fr (M := fun _ => False) (Fr.of_below hb0) fun _ _ => not_false
  have o0 : W0.cell? ⟨w.heap.size + 1, 0, none⟩ = some (.int .i64 k) := (bO.cell 0).trans rfl
  have o1 : W0.cell? ⟨w.heap.size + 1, 1, none⟩ = some (.int .i64 d) := (bO.cell 1).trans rfl
  have o2 : W0.cell? ⟨w.heap.size + 1, 2, none⟩ = some (.int .i64 a) := (bO.cell 2).trans rfl
  have o3 : W0.cell? ⟨w.heap.size + 1, 3, none⟩ = some (.int .i64 b) := (bO.cell 3).trans rfl
  have o4 : W0.cell? ⟨w.heap.size + 1, 4, none⟩ = some (.int .i64 c) := (bO.cell 4).trans rfl
  have o5 : W0.cell? ⟨w.heap.size + 1, 5, none⟩ = some (.int .i64 n) := (bO.cell 5).trans rfl
  have o6 : W0.cell? ⟨w.heap.size + 1, 6, none⟩ = some (.int .i64 g) := (bO.cell 6).trans rfl
  have HB0 := Lib.hid hb0
  have HW0 := Lib.hid hW0
  have HR := Lib.hid hr0
  clear hr hb0 bM bO hW0 hr0
  unfold opMay at h
  simp only at h
  by_cases hgm : g = -1
  · subst hgm
    have hk : (k = 14 ∨ k = 15 ∨ k = 16 ∨ k = 17) ∨ ((k = 20 ∨ k = 21 ∨ k = 22) ∧ mb R a = true) := h.resolve_left fun x => x.1 rfl
    clear h hg
    rcases hk with hk | ⟨hk, hax⟩
    · rcases hk with rfl | rfl | rfl | rfl
      · go_enter Tryd.func72, Tryd.ntmps72
        go_upto_region 1 with fail
        rw [← HW0.out]
        go_wp2
        go_ret
        exact ⟨rfl, HB0.out⟩
      · go_enter Tryd.func72, Tryd.ntmps72
        go_upto_region 1 with fail
        rw [← HW0.out]
        go_wp2
        go_ret
        exact ⟨rfl, HB0.out⟩
      · go_enter Tryd.func72, Tryd.ntmps72
        go_upto_region 1 with fail
        rw [← HW0.out]
        go_wp2
        go_ret
        exact ⟨rfl, HB0.out⟩
      · go_enter Tryd.func72, Tryd.ntmps72
        go_upto_region 1 with fail
        rw [← HW0.out]
        go_wp2
        go_ret
        exact ⟨rfl, HB0.out⟩
    · obtain ⟨ga, oa, ra, ca⟩ := bool_at HR.out ha0 ha1
      rw [hax] at ca
      subst ra
      have lga := lt_cell ca
      rcases hk with rfl | rfl | rfl
      · go_enter Tryd.func72, Tryd.ntmps72
        go_upto_region 1 with fail
        rw [← HW0.out]
        go_wp2
        go_ret
        exact ⟨rfl, HB0.out⟩
      · go_enter Tryd.func72, Tryd.ntmps72
        go_upto_region 1 with fail
        rw [← HW0.out]
        go_wp2
        go_ret
        exact ⟨rfl, HB0.out⟩
      · go_enter Tryd.func72, Tryd.ntmps72
        go_upto_region 1 with fail
        rw [← HW0.out]
        go_wp2
        go_ret
        exact ⟨rfl, HB0.out⟩
  · obtain ⟨g0, g1⟩ : inR g R.length := hg.elim (fun e => absurd e hgm) id
    have hgb : (g != -1) = true := by simpa using hgm
    obtain ⟨gr, og, rr, cg⟩ := bool_at HR.out g0 g1
    obtain ⟨bg, hbg⟩ : ∃ x, x = mb R g := ⟨_, rfl⟩
    rw [← hbg] at cg
    subst rr
    have lgr := lt_cell cg
    cases bg
    · have hk : (k = 14 ∨ k = 15 ∨ k = 16 ∨ k = 17) ∨ ((k = 20 ∨ k = 21 ∨ k = 22) ∧ mb R a = true) := h.resolve_left fun x => by rw [← hbg] at x; exact absurd x.2 Bool.false_ne_true
      clear h hg hgm hbg
      rcases hk with hk | ⟨hk, hax⟩
      · rcases hk with rfl | rfl | rfl | rfl
        · go_enter Tryd.func72, Tryd.ntmps72
          go_upto_region 1 with fail
          rw [← HW0.out]
          go_wp2
          go_ret
          exact ⟨rfl, HB0.out⟩
        · go_enter Tryd.func72, Tryd.ntmps72
          go_upto_region 1 with fail
          rw [← HW0.out]
          go_wp2
          go_ret
          exact ⟨rfl, HB0.out⟩
        · go_enter Tryd.func72, Tryd.ntmps72
          go_upto_region 1 with fail
          rw [← HW0.out]
          go_wp2
          go_ret
          exact ⟨rfl, HB0.out⟩
        · go_enter Tryd.func72, Tryd.ntmps72
          go_upto_region 1 with fail
          rw [← HW0.out]
          go_wp2
          go_ret
          exact ⟨rfl, HB0.out⟩
      · obtain ⟨ga, oa, ra, ca⟩ := bool_at HR.out ha0 ha1
        rw [hax] at ca
        obtain ⟨rfl, rfl⟩ : gr = ga ∧ og = oa := by injection ra with ra; injection ra with h1 h2 _; exact ⟨h1, h2⟩
        have lga := lt_cell ca
        rcases hk with rfl | rfl | rfl
        · go_enter Tryd.func72, Tryd.ntmps72
          go_upto_region 1 with fail
          rw [← HW0.out]
          go_wp2
          go_ret
          exact ⟨rfl, HB0.out⟩
        · go_enter Tryd.func72, Tryd.ntmps72
          go_upto_region 1 with fail
          rw [← HW0.out]
          go_wp2
          go_ret
          exact ⟨rfl, HB0.out⟩
        · go_enter Tryd.func72, Tryd.ntmps72
          go_upto_region 1 with fail
          rw [← HW0.out]
          go_wp2
          go_ret
          exact ⟨rfl, HB0.out⟩
    · clear h hg hgm hbg
      go_enter Tryd.func72, Tryd.ntmps72
      go_upto_region 1 with fail
      rw [← HW0.out]
      go_wp2
      go_ret
      exact ⟨rfl, HB0.out⟩

set_option maxRecDepth 100000 in
set_option maxHeartbeats 4000000 in
theorem endTrap_yes (hr : Row F w (.slice AR R.length cR) R.length 1 (boolV R)) (hn : R.length ≤ 4096) (k a t l : Int) (ha : inR a R.length) (h : edMay R ⟨k, a, t, l⟩) :
    Calls Tryd.prog 71 #[.agg #[.slice AR R.length cR, .slice AC nC cC], .agg #[.int .i64 k, .int .i64 a, .int .i64 t, .int .i64 l]] w fun x w' => x = .returned (.bool true) ∧ Below w.heap.size w w' := by
  obtain ⟨ha0, ha1⟩ := ha
  obtain ⟨W0, hW0⟩ : ∃ W0, W0 = (w.alloc (.cells #[.slice AR R.length cR, .slice AC nC cC] 122)).alloc (.cells #[.int .i64 k, .int .i64 a, .int .i64 t, .int .i64 l] 71) := ⟨_, rfl⟩
  have hb0 : Below w.heap.size w W0 := by rw [hW0]; exact ((Below.refl _ _).alloc (Nat.le_refl _) _).alloc (by simp) _
  have bM : Blk W0 w.heap.size 122 #[.slice AR R.length cR, .slice AC nC cC] := by rw [hW0]; exact (blk_new w rfl _ _).alloc _
  have bO : Blk W0 (w.heap.size + 1) 71 #[.int .i64 k, .int .i64 a, .int .i64 t, .int .i64 l] := by rw [hW0]; exact blk_new _ (by simp) _ _
  have m0 : W0.cell? ⟨w.heap.size, 0, none⟩ = some (.slice AR R.length cR) := (bM.cell 0).trans rfl
  have m1 : W0.cell? ⟨w.heap.size, 1, none⟩ = some (.slice AC nC cC) := (bM.cell 1).trans rfl
  have hr0 := hr.fr (M := fun _ => False) (Fr.of_below hb0) fun _ _ => not_false
  have o0 : W0.cell? ⟨w.heap.size + 1, 0, none⟩ = some (.int .i64 k) := (bO.cell 0).trans rfl
  have o1 : W0.cell? ⟨w.heap.size + 1, 1, none⟩ = some (.int .i64 a) := (bO.cell 1).trans rfl
  have o2 : W0.cell? ⟨w.heap.size + 1, 2, none⟩ = some (.int .i64 t) := (bO.cell 2).trans rfl
  have o3 : W0.cell? ⟨w.heap.size + 1, 3, none⟩ = some (.int .i64 l) := (bO.cell 3).trans rfl
  have HB0 := Lib.hid hb0
  have HW0 := Lib.hid hW0
  have HR := Lib.hid hr0
  clear hr hb0 bM bO hW0 hr0
  unfold edMay at h
  simp only at h
  by_cases h4 : k = 4
  · subst h4
    clear h
    go_enter Tryd.func71, Tryd.ntmps71
    go_upto_region 1 with fail
    rw [← HW0.out]
    go_wp2
    go_ret
    exact ⟨rfl, HB0.out⟩
  · obtain ⟨h1, hax⟩ := h.resolve_left h4
    have hb4 : (k == 4) = false := by simpa using h4
    have hb1 : (k != 1) = true := by simpa using h1
    obtain ⟨ga, oa, ra, ca⟩ := bool_at HR.out ha0 ha1
    rw [hax] at ca
    subst ra
    have lga := lt_cell ca
    clear h h4 h1 hax
    go_enter Tryd.func71, Tryd.ntmps71
    go_upto_region 1 with fail
    rw [← HW0.out]
    go_wp2
    go_ret
    exact ⟨rfl, HB0.out⟩
end Go.Proofs.YtfkjkdoloamakaaDoor
