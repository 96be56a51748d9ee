/- Operands of the specification: the registers that an operation reads. -/
import Derived.Test.YtfkjkdoloamakaaDoorTi
import Derived.Test.YtfkjkdoloamakaaDoorTa
import Derived.Deep.CutBlock
import Derived.Deep.DeepCutAuto
import Derived.Deep.RegionLaw
import Derived.Deep.RegionHeld3
namespace Go.Proofs.YtfkjkdoloamakaaDoor
open Go.RowKit
set_option linter.unusedVariables false
set_option linter.unusedSimpArgs false

/-- the registers that an operation reads, but its Guard -/
def opL (k a b c : Int) : List Int := ((if hasA k = true then [a] else []) ++ (if hasB k = true then [b] else [])) ++ (if hasC k = true then [c] else [])
theorem own_grow {B : Nat} {w w1 : World} {o : Obj} {e : TypeId} {size n : Nat} {v : Value} {xs : List Value} (h : w.ownsRow B e size v n xs) (hg : (w.alloc o).grownBy w1 v.ownBlock) (hB : B ≤ w.heap.size) : Below B w w1 :=
  ((Below.refl B w).alloc hB o).trans ((Fr.of_grown (M := fun b => v.ownBlock = some b) hg fun k hk => hk).below (fun b hb => (h.lt b hb).1) (by simp; omega))
theorem rowi_at {F : Nat → Prop} {w : World} {A : Option Addr} {n c : Nat} {xs : List Value} (h : Row F w (.slice A n c) n 1 xs) {i : Nat} (hi : i < n) : ∃ g o, A = some ⟨g, o, none⟩ ∧ F g ∧ g < w.heap.size ∧ ∀ u, xs[i]? = some u → w.cell? ⟨g, o + i, none⟩ = some u := by
  obtain ⟨_, A', c', e, _, _, hh⟩ := h
  injection e with e1 _ _
  subst e1
  obtain ⟨g, o, eA, hF, hl, hc⟩ := hh (by omega)
  exact ⟨g, o, eA, hF, hl, fun u hu => hc i u hu⟩
theorem hasB_A {k : Int} (h : hasB k = true) : hasA k = true := by
  have h1 := of_decide_eq_true h
  exact decide_eq_true (by omega)
theorem hasC_B {k : Int} (h : hasC k = true) : hasB k = true := by
  have h1 : k = 12 := of_decide_eq_true h
  exact decide_eq_true (by omega)
theorem opL_len (k a b c : Int) : (opL k a b c).length ≤ 3 := by
  unfold opL
  cases hasA k <;> cases hasB k <;> cases hasC k <;> simp
theorem opL_in {k a b c r : Int} (h : r ∈ opL k a b c) : r = a ∨ r = b ∨ r = c := by
  unfold opL at h
  revert h
  cases hasA k <;> cases hasB k <;> cases hasC k <;> simp <;> omega

set_option maxRecDepth 100000 in
set_option maxHeartbeats 1000000 in
theorem roperands_any (k d a b c n g : Int) (w : World) : Calls Tryd.prog 81 #[.agg #[.int .i64 k, .int .i64 d, .int .i64 a, .int .i64 b, .int .i64 c, .int .i64 n, .int .i64 g]] w fun x w' => ∃ A cc, x = .returned (.slice A (opL k a b c).length cc) ∧ Row (fun g => w.heap.size < g) w' (.slice A (opL k a b c).length cc) (opL k a b c).length 1 (numV (opL k a b c)) ∧ Below w.heap.size w w' := by
  obtain ⟨W0, hW0⟩ : ∃ W0, W0 = w.alloc (.cells #[.int .i64 k, .int .i64 d, .int .i64 a, .int .i64 b, .int .i64 c, .int .i64 n, .int .i64 g] 76) := ⟨_, rfl⟩
  have hb0 : Below w.heap.size w W0 := by rw [hW0]; exact (Below.refl _ _).alloc (Nat.le_refl _) _
  have hq : Blk W0 w.heap.size 76 #[.int .i64 k, .int .i64 d, .int .i64 a, .int .i64 b, .int .i64 c, .int .i64 n, .int .i64 g] := by rw [hW0]; exact blk_new w rfl _ _
  have hz : W0.heap.size = w.heap.size + 1 := by rw [hW0]; simp
  obtain ⟨i0, hi, hz0, hz1, hz2⟩ := info_parts int_info
  have HW0 := Lib.hid hW0
  have HB0 := Lib.hid hb0
  have HQ := Lib.hid hq
  obtain ⟨fA, hfA⟩ : ∃ t, t = hasA k := ⟨_, rfl⟩
  obtain ⟨fB, hfB⟩ : ∃ t, t = hasB k := ⟨_, rfl⟩
  obtain ⟨fC, hfC⟩ : ∃ t, t = hasC k := ⟨_, rfl⟩
  have kA := fun (W : World) => rA_any k W
  have kB := fun (W : World) => rB_any k W
  have kC := fun (W : World) => rC_any k W
  rw [← hfA] at kA
  rw [← hfB] at kB
  rw [← hfC] at kC
  have KA := Lib.hid kA
  have KB := Lib.hid kB
  have KC := Lib.hid kC
  have hL : opL k a b c = ((if fA = true then [a] else []) ++ (if fB = true then [b] else [])) ++ (if fC = true then [c] else []) := by rw [hfA, hfB, hfC]; rfl
  obtain ⟨lf, hlf⟩ : ∃ l, l = opL k a b c := ⟨_, rfl⟩
  rw [← hlf] at hL ⊢
  have HLF := Lib.hid hL
  clear hL hlf kA kB kC hfA hfB hfC hW0 hb0 hq
  go_enter Tryd.func81, Tryd.ntmps81
  go_upto_region 1 with fail
  rw [← HW0.out]
  go_cut [3] from 4 to 28 (fun v3 wx => ∃ (A : Option Addr) (cc : Nat), v3 = .slice A ([] : List Int).length cc ∧ wx.ownsRow W0.heap.size 3 1 v3 ([] : List Int).length (numV []) ∧ Below W0.heap.size W0 wx)
  case first => as_aux_lemma =>
    go_wp2
    go_meet
    exact ⟨none, 0, rfl, ⟨by simp [numV], .inl ⟨rfl, rfl⟩⟩, Below.refl _ _⟩
  case rest =>
  obtain ⟨A0, c0, rfl, ho, hb⟩ := hcut
  obtain ⟨w0, hw⟩ : ∃ x : World, x = wc := ⟨_, rfl⟩
  rw [← hw] at ho hb ⊢
  clear hw wc
  obtain ⟨l0, hl0⟩ : ∃ l : List Int, l = [] := ⟨_, rfl⟩
  rw [← hl0] at ho ⊢
  have hm0 : l0.length ≤ 0 := by rw [hl0]; simp
  have q0 : w0.cell? ⟨w.heap.size, 0, none⟩ = some (.int .i64 k) := (hb.cell (p := ⟨w.heap.size, 0, none⟩) (by simp only; omega)).trans ((HQ.out.cell 0).trans rfl)
  have q2 : w0.cell? ⟨w.heap.size, 2, none⟩ = some (.int .i64 a) := (hb.cell (p := ⟨w.heap.size, 2, none⟩) (by simp only; omega)).trans ((HQ.out.cell 2).trans rfl)
  have HO0 := Lib.hid ho
  have HL0 := Lib.hid hb
  have HLL0 := Lib.hid hl0
  clear ho hb hl0
  go_upto_if 6 with (first
    | (go_at_call 46; (with_reducible refine (KA.out _).mono ?_); rintro x w3 ⟨rfl, rfl⟩)
    | (go_at_call 47; (with_reducible refine (KB.out _).mono ?_); rintro x w3 ⟨rfl, rfl⟩)
    | (go_at_call 48; (with_reducible refine (KC.out _).mono ?_); rintro x w3 ⟨rfl, rfl⟩))
  go_cut [3] from 4 to 28 (fun v3 wx => ∃ (A : Option Addr) (cc : Nat), v3 = .slice A (l0 ++ (if fA = true then [a] else [])).length cc ∧ wx.ownsRow W0.heap.size 3 1 v3 (l0 ++ (if fA = true then [a] else [])).length (numV (l0 ++ (if fA = true then [a] else []))) ∧ Below W0.heap.size W0 wx)
  case first => as_aux_lemma =>
    cases fA
    · go_wp2
      go_meet
      exact ⟨A0, c0, by simp, by simpa using HO0.out, HL0.out⟩
    · go_wp2_with (at_builtin; refine wpList_append_own_at _ rfl (.tmp 7) (.tmp 10) 22 rfl W0.heap.size 3 i0 (.int .i64 0) 1 8 Tryd.underlying22 hi hz0 hz1 hz2 rfl (by decide) (.slice A0 l0.length c0) l0.length (numV l0) rfl ?co ⟨w0.heap.size, 0, none⟩ 1 1 [.int .i64 a] rfl rfl ?c1 ?c2 ?c3 ?c4 ?c5 ?_; (case co => exact own_fr (M := fun _ => False) HO0.out ((Fr.refl _ w0).alloc _) (fun _ _ => not_false)); (case c1 => exact cell_new w0 _ rfl _ _); (case c2 => exact one_mem rfl); (case c3 => (unfold maxLen; omega)); (case c4 => omega); (case c5 => (have := HL0.out.size; simp; omega)); intro v' wA hown1 hg1 _hx hat1; obtain ⟨AA, cA, rfl⟩ := own_shape hown1; have HOA := Lib.hid hown1; have HGA := Lib.hid hg1; clear hown1 hg1 hat1 _hx)
      go_meet
      exact ⟨AA, cA, by simp, by have := HOA.out; simpa [numV] using this, HL0.out.trans (own_grow HO0.out HGA.out HL0.out.size)⟩
  case rest =>
  obtain ⟨A1, c1, rfl, ho, hb⟩ := hcut
  obtain ⟨w1, hw⟩ : ∃ x : World, x = wc := ⟨_, rfl⟩
  rw [← hw] at ho hb ⊢
  clear hw wc
  obtain ⟨l1, hl1⟩ : ∃ l, l = l0 ++ (if fA = true then [a] else []) := ⟨_, rfl⟩
  rw [← hl1] at ho ⊢
  have hm1 : l1.length ≤ 1 := by
    rw [hl1, List.length_append]
    have : (if fA = true then [a] else []).length ≤ 1 := by cases fA <;> simp
    omega
  have q0 : w1.cell? ⟨w.heap.size, 0, none⟩ = some (.int .i64 k) := (hb.cell (p := ⟨w.heap.size, 0, none⟩) (by simp only; omega)).trans ((HQ.out.cell 0).trans rfl)
  have q3 : w1.cell? ⟨w.heap.size, 3, none⟩ = some (.int .i64 b) := (hb.cell (p := ⟨w.heap.size, 3, none⟩) (by simp only; omega)).trans ((HQ.out.cell 3).trans rfl)
  have q4 : w1.cell? ⟨w.heap.size, 4, none⟩ = some (.int .i64 c) := (hb.cell (p := ⟨w.heap.size, 4, none⟩) (by simp only; omega)).trans ((HQ.out.cell 4).trans rfl)
  have HO1 := Lib.hid ho
  have HL1 := Lib.hid hb
  have HLL1 := Lib.hid hl1
  clear ho hb hl1
  go_upto_if 14 with (first
    | (go_at_call 46; (with_reducible refine (KA.out _).mono ?_); rintro x w3 ⟨rfl, rfl⟩)
    | (go_at_call 47; (with_reducible refine (KB.out _).mono ?_); rintro x w3 ⟨rfl, rfl⟩)
    | (go_at_call 48; (with_reducible refine (KC.out _).mono ?_); rintro x w3 ⟨rfl, rfl⟩))
  go_cut [3] from 4 to 28 (fun v3 wx => ∃ (A : Option Addr) (cc : Nat), v3 = .slice A (l1 ++ (if fB = true then [b] else [])).length cc ∧ wx.ownsRow W0.heap.size 3 1 v3 (l1 ++ (if fB = true then [b] else [])).length (numV (l1 ++ (if fB = true then [b] else []))) ∧ Below W0.heap.size W0 wx)
  case first => as_aux_lemma =>
    cases fB
    · go_wp2
      go_meet
      exact ⟨A1, c1, by simp, by simpa using HO1.out, HL1.out⟩
    · go_wp2_with (at_builtin; refine wpList_append_own_at _ rfl (.tmp 15) (.tmp 18) 22 rfl W0.heap.size 3 i0 (.int .i64 0) 1 8 Tryd.underlying22 hi hz0 hz1 hz2 rfl (by decide) (.slice A1 l1.length c1) l1.length (numV l1) rfl ?co ⟨w1.heap.size, 0, none⟩ 1 1 [.int .i64 b] rfl rfl ?c1 ?c2 ?c3 ?c4 ?c5 ?_; (case co => exact own_fr (M := fun _ => False) HO1.out ((Fr.refl _ w1).alloc _) (fun _ _ => not_false)); (case c1 => exact cell_new w1 _ rfl _ _); (case c2 => exact one_mem rfl); (case c3 => (unfold maxLen; omega)); (case c4 => omega); (case c5 => (have := HL1.out.size; simp; omega)); intro v' wA hown1 hg1 _hx hat1; obtain ⟨AA, cA, rfl⟩ := own_shape hown1; have HOA := Lib.hid hown1; have HGA := Lib.hid hg1; clear hown1 hg1 hat1 _hx)
      go_meet
      exact ⟨AA, cA, by simp, by have := HOA.out; simpa [numV] using this, HL1.out.trans (own_grow HO1.out HGA.out HL1.out.size)⟩
  case rest =>
  obtain ⟨A2, c2, rfl, ho, hb⟩ := hcut
  obtain ⟨w2, hw⟩ : ∃ x : World, x = wc := ⟨_, rfl⟩
  rw [← hw] at ho hb ⊢
  clear hw wc
  obtain ⟨l2, hl2⟩ : ∃ l, l = l1 ++ (if fB = true then [b] else []) := ⟨_, rfl⟩
  rw [← hl2] at ho ⊢
  have hm2 : l2.length ≤ 2 := by
    rw [hl2, List.length_append]
    have : (if fB = true then [b] else []).length ≤ 1 := by cases fB <;> simp
    omega
  have q0 : w2.cell? ⟨w.heap.size, 0, none⟩ = some (.int .i64 k) := (hb.cell (p := ⟨w.heap.size, 0, none⟩) (by simp only; omega)).trans ((HQ.out.cell 0).trans rfl)
  have q3 : w2.cell? ⟨w.heap.size, 3, none⟩ = some (.int .i64 b) := (hb.cell (p := ⟨w.heap.size, 3, none⟩) (by simp only; omega)).trans ((HQ.out.cell 3).trans rfl)
  have q4 : w2.cell? ⟨w.heap.size, 4, none⟩ = some (.int .i64 c) := (hb.cell (p := ⟨w.heap.size, 4, none⟩) (by simp only; omega)).trans ((HQ.out.cell 4).trans rfl)
  have HO2 := Lib.hid ho
  have HL2 := Lib.hid hb
  have HLL2 := Lib.hid hl2
  clear ho hb hl2
  go_upto_if 22 with (first
    | (go_at_call 46; (with_reducible refine (KA.out _).mono ?_); rintro x w3 ⟨rfl, rfl⟩)
    | (go_at_call 47; (with_reducible refine (KB.out _).mono ?_); rintro x w3 ⟨rfl, rfl⟩)
    | (go_at_call 48; (with_reducible refine (KC.out _).mono ?_); rintro x w3 ⟨rfl, rfl⟩))
  go_cut [3] from 4 to 28 (fun v3 wx => ∃ (A : Option Addr) (cc : Nat), v3 = .slice A (l2 ++ (if fC = true then [c] else [])).length cc ∧ wx.ownsRow W0.heap.size 3 1 v3 (l2 ++ (if fC = true then [c] else [])).length (numV (l2 ++ (if fC = true then [c] else []))) ∧ Below W0.heap.size W0 wx)
  case first => as_aux_lemma =>
    cases fC
    · go_wp2
      go_meet
      exact ⟨A2, c2, by simp, by simpa using HO2.out, HL2.out⟩
    · go_wp2_with (at_builtin; refine wpList_append_own_at _ rfl (.tmp 23) (.tmp 26) 22 rfl W0.heap.size 3 i0 (.int .i64 0) 1 8 Tryd.underlying22 hi hz0 hz1 hz2 rfl (by decide) (.slice A2 l2.length c2) l2.length (numV l2) rfl ?co ⟨w2.heap.size, 0, none⟩ 1 1 [.int .i64 c] rfl rfl ?c1 ?c2 ?c3 ?c4 ?c5 ?_; (case co => exact own_fr (M := fun _ => False) HO2.out ((Fr.refl _ w2).alloc _) (fun _ _ => not_false)); (case c1 => exact cell_new w2 _ rfl _ _); (case c2 => exact one_mem rfl); (case c3 => (unfold maxLen; omega)); (case c4 => omega); (case c5 => (have := HL2.out.size; simp; omega)); intro v' wA hown1 hg1 _hx hat1; obtain ⟨AA, cA, rfl⟩ := own_shape hown1; have HOA := Lib.hid hown1; have HGA := Lib.hid hg1; clear hown1 hg1 hat1 _hx)
      go_meet
      exact ⟨AA, cA, by simp, by have := HOA.out; simpa [numV] using this, HL2.out.trans (own_grow HO2.out HGA.out HL2.out.size)⟩
  case rest =>
  obtain ⟨A3, c3, rfl, ho, hb⟩ := hcut
  obtain ⟨w3, hw⟩ : ∃ x : World, x = wc := ⟨_, rfl⟩
  rw [← hw] at ho hb ⊢
  clear hw wc
  obtain ⟨l3, hl3⟩ : ∃ l, l = l2 ++ (if fC = true then [c] else []) := ⟨_, rfl⟩
  rw [← hl3] at ho ⊢
  have hm3 : l3.length ≤ 3 := by
    rw [hl3, List.length_append]
    have : (if fC = true then [c] else []).length ≤ 1 := by cases fC <;> simp
    omega
  have q0 : w3.cell? ⟨w.heap.size, 0, none⟩ = some (.int .i64 k) := (hb.cell (p := ⟨w.heap.size, 0, none⟩) (by simp only; omega)).trans ((HQ.out.cell 0).trans rfl)
  have q3 : w3.cell? ⟨w.heap.size, 3, none⟩ = some (.int .i64 b) := (hb.cell (p := ⟨w.heap.size, 3, none⟩) (by simp only; omega)).trans ((HQ.out.cell 3).trans rfl)
  have q4 : w3.cell? ⟨w.heap.size, 4, none⟩ = some (.int .i64 c) := (hb.cell (p := ⟨w.heap.size, 4, none⟩) (by simp only; omega)).trans ((HQ.out.cell 4).trans rfl)
  have HO3 := Lib.hid ho
  have HL3 := Lib.hid hb
  have HLL3 := Lib.hid hl3
  clear ho hb hl3
  go_wp2
  go_ret
  have e : lf = l3 := by rw [HLF.out, HLL3.out, HLL2.out, HLL1.out, HLL0.out]; simp
  rw [e]
  exact ⟨A3, c3, rfl, Row.of_own HO3.out (fun g hg => by omega) (by decide), HB0.out.trans (HL3.out.mono (by omega))⟩
end Go.Proofs.YtfkjkdoloamakaaDoor
