/- spread of code.May, walked. -/
import Derived.Test.YtfkjkdoloamakaaDoorYc
namespace Go.Proofs.YtfkjkdoloamakaaDoor
open Go.RowKit
set_option linter.unusedVariables false
set_option linter.unusedSimpArgs false
variable {w : World} {R C : List Bool} {gR gC : Nat}

theorem rdU_in {x : Int × Int × Int} {a b c K : Int} (ha : inR a K) (hb : inR b K) (hc : inR c K) : ∀ r ∈ rdU x a b c 3, inR r K := by
  intro r hr
  have er : rdU x a b c 3 = (if x.1 = 0 then [] else [a]) ++ (if x.2.1 = 0 then [] else [b]) ++ (if x.2.2 = 0 then [] else [c]) := rfl
  rw [er] at hr
  simp only [List.mem_append] at hr
  rcases hr with (hr | hr) | hr
  · split at hr <;> simp at hr; subst hr; exact ha
  · split at hr <;> simp at hr; subst hr; exact hb
  · split at hr <;> simp at hr; subst hr; exact hc
theorem bool_row {W : World} {g : Nat} {l : List Bool} (h : Blk W g 4 (boolV l).toArray) (hn : l.length ≤ 4096) : Row (fun _ => True) W (.slice (some ⟨g, 0, none⟩) l.length l.length) l.length 1 (boolV l) :=
  (row_blk h (by simp [boolV]) (by unfold maxLen; omega)).mono fun _ _ _ => trivial
theorem own_list {W : World} {base : Nat} {A : Option Addr} {c : Nat} {l : List Int} (h : W.ownsRow base 3 1 (.slice A l.length c) l.length (numV l)) : 0 < l.length → ∃ g o, A = some ⟨g, o, none⟩ ∧ ∀ j (hj : j < l.length), W.cell? ⟨g, o + j, none⟩ = some (.int .i64 l[j]) := by
  intro h0
  obtain ⟨_, A', c', e, _, _, hh⟩ := Row.of_own (N := fun _ => True) h (fun _ _ => trivial) (by decide)
  injection e with e1 _ _
  subst e1
  obtain ⟨g, o, eA, _, _, hc⟩ := hh h0
  exact ⟨g, o, eA, fun j hj => hc j _ (by simp [numV, hj])⟩
theorem boolCell {W : World} {g : Nat} {l : List Bool} (h : Blk W g 4 (boolV l).toArray) {i : Int} (h0 : 0 ≤ i) (h1 : i < l.length) : W.cell? ⟨g, i.toNat, none⟩ = some (.bool (mb l i)) := by
  have hi : i.toNat < l.length := by omega
  rw [h.cell, List.getElem?_toArray]
  unfold boolV mb
  rw [List.getElem?_map, List.getElem?_eq_getElem hi, List.getD_eq_getElem?_getD, List.getElem?_eq_getElem hi]
  rfl
theorem boolSet {W : World} {g : Nat} {l : List Bool} (h : Blk W g 4 (boolV l).toArray) (i : Nat) : Blk (W.setCell ⟨g, i, none⟩ (.bool true)) g 4 (boolV (l.set i true)).toArray := by
  have hb := h.set_ i (.bool true)
  simp only [List.setIfInBounds_toArray] at hb
  have e : (boolV l).set i (.bool true) = boolV (l.set i true) := by simp [boolV, List.map_set]
  rw [e] at hb
  exact hb

set_option maxRecDepth 100000 in
set_option maxHeartbeats 2000000 in
theorem spread_23_old (bR : Blk w gR 4 (boolV R).toArray) (bC : Blk w gC 4 (boolV C).toArray) (hRC : gR ≠ gC) (V : Env w) (hn : R.length ≤ 4096) (hnC : C.length ≤ 4096) (d a b c n g : Int) (hd : inR d R.length) (hdt : mb R d = true) (hk1 : 1 ≤ (23 : Int)) (hk2 : (23 : Int) ≤ 25) (ha : inR a R.length) (hb : inR b R.length) (hc : inR c R.length) (bd : Bool) (x0 : Int × Int × Int) (e0 : bits .and .i64 (usesK 23) 2 = x0.1) (e1 : bits .and .i64 (usesK 23) 4 = x0.2.1) (e2 : bits .and .i64 (usesK 23) 8 = x0.2.2) (hbd : anyB R (rdU x0 a b c 3) = bd) :
    Calls Tryd.prog 87 #[.agg #[.slice (some ⟨gR, 0, none⟩) R.length R.length, .slice (some ⟨gC, 0, none⟩) C.length C.length], .agg #[.int .i64 23, .int .i64 d, .int .i64 a, .int .i64 b, .int .i64 c, .int .i64 n, .int .i64 g]] w fun x w' => x = .returned (.bool false) ∧ Below w.heap.size w w' := by
  obtain ⟨W0, hW0⟩ : ∃ W0, W0 = (w.alloc (.cells #[.slice (some ⟨gR, 0, none⟩) R.length R.length, .slice (some ⟨gC, 0, none⟩) C.length C.length] 122)).alloc (.cells #[.int .i64 23, .int .i64 d, .int .i64 a, .int .i64 b, .int .i64 c, .int .i64 n, .int .i64 g] 76) := ⟨_, rfl⟩
  have hb0 : Below w.heap.size w W0 := by rw [hW0]; exact ((Below.refl _ _).alloc (Nat.le_refl _) _).alloc (by simp) _
  have bM : Blk W0 w.heap.size 122 #[.slice (some ⟨gR, 0, none⟩) R.length R.length, .slice (some ⟨gC, 0, none⟩) C.length C.length] := by rw [hW0]; exact (blk_new w rfl _ _).alloc _
  have bO : Blk W0 (w.heap.size + 1) 76 #[.int .i64 23, .int .i64 d, .int .i64 a, .int .i64 b, .int .i64 c, .int .i64 n, .int .i64 g] := by rw [hW0]; exact blk_new _ (by simp) _ _
  have q0 : W0.cell? ⟨w.heap.size + 1, 0, none⟩ = some (.int .i64 23) := (bO.cell 0).trans rfl
  have q1 : W0.cell? ⟨w.heap.size + 1, 1, none⟩ = some (.int .i64 d) := (bO.cell 1).trans rfl
  have q2 : W0.cell? ⟨w.heap.size + 1, 2, none⟩ = some (.int .i64 a) := (bO.cell 2).trans rfl
  have q3 : W0.cell? ⟨w.heap.size + 1, 3, none⟩ = some (.int .i64 b) := (bO.cell 3).trans rfl
  have q4 : W0.cell? ⟨w.heap.size + 1, 4, none⟩ = some (.int .i64 c) := (bO.cell 4).trans rfl
  have q5 : W0.cell? ⟨w.heap.size + 1, 5, none⟩ = some (.int .i64 n) := (bO.cell 5).trans rfl
  have q6 : W0.cell? ⟨w.heap.size + 1, 6, none⟩ = some (.int .i64 g) := (bO.cell 6).trans rfl
  have hmf : ∀ (fn : Fn) (first cap : Array Value) (w : World), (Instr.makeFunc fn first cap).run Tryd.prog w = .ok (.func fn first cap) w := fun _ _ _ _ => rfl
  have lR : gR < w.heap.size := bR.lt
  have lC : gC < w.heap.size := bC.lt
  have kr := read_any 23 d a b c n g hk1 hk2 x0 e0 e1 e2 W0 (V.below hb0)
  obtain ⟨l, hl⟩ : ∃ l, l = rdU x0 a b c 3 := ⟨_, rfl⟩
  have hl3 : l.length ≤ 16 := by rw [hl]; have := rdU_len (x := x0) (a := a) (b := b) (c := c) (j := 3); omega
  have hin : ∀ r ∈ l, inR r R.length := by
    rw [hl]; exact rdU_in ha hb hc
  rw [← hl] at kr hbd
  have HRW := Lib.hid (show Row (fun _ => True) W0 (.slice (some ⟨gR, 0, none⟩) R.length R.length) R.length 1 (boolV R) from bool_row (bR.fr (Fr.of_below (M := fun _ => False) hb0) not_false) hn)
  have KR := Lib.hid kr
  have HIN := Lib.hid hin
  have HBD := Lib.hid hbd
  have HW0 := Lib.hid hW0
  have HB0 := Lib.hid hb0
  have HBM := Lib.hid bM
  have HBO := Lib.hid bO
  have HBR := Lib.hid bR
  have HBC := Lib.hid bC
  clear bR bC V hb0 bM bO hW0 kr hin hbd hl e0 e1 e2 ha hb hc
  go_enter Tryd.func87, Tryd.ntmps87
  go_wp2_with (first
    | (go_at_call 104; (rw [← HW0.out]); refine (KR.out).mono ?_; rintro x w1 ⟨v, rfl, hv, hb1⟩; obtain ⟨A1, c1, rfl⟩ := own_shape hv; have hf1 := Fr.of_below (M := fun _ => False) hb1; have hM := HBM.out.fr hf1 not_false; have hO := HBO.out.fr hf1 not_false; have m0 : w1.cell? ⟨w.heap.size, 0, none⟩ = some (.slice (some ⟨gR, 0, none⟩) R.length R.length) := (hM.cell 0).trans rfl; have m1 : w1.cell? ⟨w.heap.size, 1, none⟩ = some (.slice (some ⟨gC, 0, none⟩) C.length C.length) := (hM.cell 1).trans rfl; have o0 : w1.cell? ⟨w.heap.size + 1, 0, none⟩ = some (.int .i64 23) := (hO.cell 0).trans rfl; have o1 : w1.cell? ⟨w.heap.size + 1, 1, none⟩ = some (.int .i64 d) := (hO.cell 1).trans rfl; have o2 : w1.cell? ⟨w.heap.size + 1, 2, none⟩ = some (.int .i64 a) := (hO.cell 2).trans rfl; have o3 : w1.cell? ⟨w.heap.size + 1, 3, none⟩ = some (.int .i64 b) := (hO.cell 3).trans rfl; have o4 : w1.cell? ⟨w.heap.size + 1, 4, none⟩ = some (.int .i64 c) := (hO.cell 4).trans rfl; have o5 : w1.cell? ⟨w.heap.size + 1, 5, none⟩ = some (.int .i64 n) := (hO.cell 5).trans rfl; have o6 : w1.cell? ⟨w.heap.size + 1, 6, none⟩ = some (.int .i64 g) := (hO.cell 6).trans rfl; have hcc : 0 < l.length → ∃ g o, A1 = some ⟨g, o, none⟩ ∧ ∀ j (hj : j < l.length), w1.cell? ⟨g, o + j, none⟩ = some (.int .i64 l[j]) := own_list hv; have kc := mayF_any (HRW.out.fr hf1 fun _ _ => not_false) hn w.heap.size m0 A1 c1 l hl3 HIN.out hcc; rw [HBD.out] at kc; have hbw : Below w.heap.size w w1 := HB0.out.trans (hb1.mono HB0.out.size); have hRw := HBR.out.fr (Fr.of_below (M := fun _ => False) hbw) not_false; have hCw := HBC.out.fr (Fr.of_below (M := fun _ => False) hbw) not_false; have cd := boolCell hRw hd.1 hd.2; rw [hdt] at cd; have fd := hRw.frozen d.toNat; have hd0 := hd.1; have hd1 := hd.2; have HRw := Lib.hid hRw; have HCw := Lib.hid hCw; have HBW := Lib.hid hbw; have KC := Lib.hid kc; clear hv hb1 hf1 hM hO hcc kc hbw hRw hCw)
    | (go_at_call 92; refine (KC.out).mono ?_; rintro x w3 ⟨rfl, rfl⟩))
  go_ret
  exact ⟨rfl, HBW.out⟩

set_option maxRecDepth 100000 in
set_option maxHeartbeats 2000000 in
theorem spread_23_new (bR : Blk w gR 4 (boolV R).toArray) (bC : Blk w gC 4 (boolV C).toArray) (hRC : gR ≠ gC) (V : Env w) (hn : R.length ≤ 4096) (hnC : C.length ≤ 4096) (d a b c n g : Int) (hd : inR d R.length) (hdt : mb R d = false) (hk1 : 1 ≤ (23 : Int)) (hk2 : (23 : Int) ≤ 25) (ha : inR a R.length) (hb : inR b R.length) (hc : inR c R.length) (bd : Bool) (x0 : Int × Int × Int) (e0 : bits .and .i64 (usesK 23) 2 = x0.1) (e1 : bits .and .i64 (usesK 23) 4 = x0.2.1) (e2 : bits .and .i64 (usesK 23) 8 = x0.2.2) (hbd : anyB R (rdU x0 a b c 3) = bd) :
    Calls Tryd.prog 87 #[.agg #[.slice (some ⟨gR, 0, none⟩) R.length R.length, .slice (some ⟨gC, 0, none⟩) C.length C.length], .agg #[.int .i64 23, .int .i64 d, .int .i64 a, .int .i64 b, .int .i64 c, .int .i64 n, .int .i64 g]] w fun x w' => x = .returned (.bool true) ∧ Blk w' gR 4 (boolV (R.set (d).toNat true)).toArray ∧ Blk w' gC 4 (boolV C).toArray ∧ Fr (fun b => b = gR ∨ b = gC) w w' := by
  obtain ⟨W0, hW0⟩ : ∃ W0, W0 = (w.alloc (.cells #[.slice (some ⟨gR, 0, none⟩) R.length R.length, .slice (some ⟨gC, 0, none⟩) C.length C.length] 122)).alloc (.cells #[.int .i64 23, .int .i64 d, .int .i64 a, .int .i64 b, .int .i64 c, .int .i64 n, .int .i64 g] 76) := ⟨_, rfl⟩
  have hb0 : Below w.heap.size w W0 := by rw [hW0]; exact ((Below.refl _ _).alloc (Nat.le_refl _) _).alloc (by simp) _
  have bM : Blk W0 w.heap.size 122 #[.slice (some ⟨gR, 0, none⟩) R.length R.length, .slice (some ⟨gC, 0, none⟩) C.length C.length] := by rw [hW0]; exact (blk_new w rfl _ _).alloc _
  have bO : Blk W0 (w.heap.size + 1) 76 #[.int .i64 23, .int .i64 d, .int .i64 a, .int .i64 b, .int .i64 c, .int .i64 n, .int .i64 g] := by rw [hW0]; exact blk_new _ (by simp) _ _
  have q0 : W0.cell? ⟨w.heap.size + 1, 0, none⟩ = some (.int .i64 23) := (bO.cell 0).trans rfl
  have q1 : W0.cell? ⟨w.heap.size + 1, 1, none⟩ = some (.int .i64 d) := (bO.cell 1).trans rfl
  have q2 : W0.cell? ⟨w.heap.size + 1, 2, none⟩ = some (.int .i64 a) := (bO.cell 2).trans rfl
  have q3 : W0.cell? ⟨w.heap.size + 1, 3, none⟩ = some (.int .i64 b) := (bO.cell 3).trans rfl
  have q4 : W0.cell? ⟨w.heap.size + 1, 4, none⟩ = some (.int .i64 c) := (bO.cell 4).trans rfl
  have q5 : W0.cell? ⟨w.heap.size + 1, 5, none⟩ = some (.int .i64 n) := (bO.cell 5).trans rfl
  have q6 : W0.cell? ⟨w.heap.size + 1, 6, none⟩ = some (.int .i64 g) := (bO.cell 6).trans rfl
  have hmf : ∀ (fn : Fn) (first cap : Array Value) (w : World), (Instr.makeFunc fn first cap).run Tryd.prog w = .ok (.func fn first cap) w := fun _ _ _ _ => rfl
  have lR : gR < w.heap.size := bR.lt
  have lC : gC < w.heap.size := bC.lt
  have kr := read_any 23 d a b c n g hk1 hk2 x0 e0 e1 e2 W0 (V.below hb0)
  obtain ⟨l, hl⟩ : ∃ l, l = rdU x0 a b c 3 := ⟨_, rfl⟩
  have hl3 : l.length ≤ 16 := by rw [hl]; have := rdU_len (x := x0) (a := a) (b := b) (c := c) (j := 3); omega
  have hin : ∀ r ∈ l, inR r R.length := by
    rw [hl]; exact rdU_in ha hb hc
  rw [← hl] at kr hbd
  have HRW := Lib.hid (show Row (fun _ => True) W0 (.slice (some ⟨gR, 0, none⟩) R.length R.length) R.length 1 (boolV R) from bool_row (bR.fr (Fr.of_below (M := fun _ => False) hb0) not_false) hn)
  have KR := Lib.hid kr
  have HIN := Lib.hid hin
  have HBD := Lib.hid hbd
  have HW0 := Lib.hid hW0
  have HB0 := Lib.hid hb0
  have HBM := Lib.hid bM
  have HBO := Lib.hid bO
  have HBR := Lib.hid bR
  have HBC := Lib.hid bC
  clear bR bC V hb0 bM bO hW0 kr hin hbd hl e0 e1 e2 ha hb hc
  go_enter Tryd.func87, Tryd.ntmps87
  go_wp2_with (first
    | (go_at_call 104; (rw [← HW0.out]); refine (KR.out).mono ?_; rintro x w1 ⟨v, rfl, hv, hb1⟩; obtain ⟨A1, c1, rfl⟩ := own_shape hv; have hf1 := Fr.of_below (M := fun _ => False) hb1; have hM := HBM.out.fr hf1 not_false; have hO := HBO.out.fr hf1 not_false; have m0 : w1.cell? ⟨w.heap.size, 0, none⟩ = some (.slice (some ⟨gR, 0, none⟩) R.length R.length) := (hM.cell 0).trans rfl; have m1 : w1.cell? ⟨w.heap.size, 1, none⟩ = some (.slice (some ⟨gC, 0, none⟩) C.length C.length) := (hM.cell 1).trans rfl; have o0 : w1.cell? ⟨w.heap.size + 1, 0, none⟩ = some (.int .i64 23) := (hO.cell 0).trans rfl; have o1 : w1.cell? ⟨w.heap.size + 1, 1, none⟩ = some (.int .i64 d) := (hO.cell 1).trans rfl; have o2 : w1.cell? ⟨w.heap.size + 1, 2, none⟩ = some (.int .i64 a) := (hO.cell 2).trans rfl; have o3 : w1.cell? ⟨w.heap.size + 1, 3, none⟩ = some (.int .i64 b) := (hO.cell 3).trans rfl; have o4 : w1.cell? ⟨w.heap.size + 1, 4, none⟩ = some (.int .i64 c) := (hO.cell 4).trans rfl; have o5 : w1.cell? ⟨w.heap.size + 1, 5, none⟩ = some (.int .i64 n) := (hO.cell 5).trans rfl; have o6 : w1.cell? ⟨w.heap.size + 1, 6, none⟩ = some (.int .i64 g) := (hO.cell 6).trans rfl; have hcc : 0 < l.length → ∃ g o, A1 = some ⟨g, o, none⟩ ∧ ∀ j (hj : j < l.length), w1.cell? ⟨g, o + j, none⟩ = some (.int .i64 l[j]) := own_list hv; have kc := mayF_any (HRW.out.fr hf1 fun _ _ => not_false) hn w.heap.size m0 A1 c1 l hl3 HIN.out hcc; rw [HBD.out] at kc; have hbw : Below w.heap.size w w1 := HB0.out.trans (hb1.mono HB0.out.size); have hRw := HBR.out.fr (Fr.of_below (M := fun _ => False) hbw) not_false; have hCw := HBC.out.fr (Fr.of_below (M := fun _ => False) hbw) not_false; have cd := boolCell hRw hd.1 hd.2; rw [hdt] at cd; have fd := hRw.frozen d.toNat; have hd0 := hd.1; have hd1 := hd.2; have HRw := Lib.hid hRw; have HCw := Lib.hid hCw; have HBW := Lib.hid hbw; have KC := Lib.hid kc; clear hv hb1 hf1 hM hO hcc kc hbw hRw hCw)
    | (go_at_call 92; refine (KC.out).mono ?_; rintro x w3 ⟨rfl, rfl⟩))
  go_ret
  exact ⟨rfl, boolSet (HRw.out) (d).toNat, (HCw.out).far (p := ⟨gR, (d).toNat, none⟩) hRC.symm _, ((Fr.of_below HBW.out)).setCell (p := ⟨gR, (d).toNat, none⟩) (.inl (.inl rfl)) _⟩

set_option maxRecDepth 100000 in
set_option maxHeartbeats 2000000 in
theorem spread_24_old (bR : Blk w gR 4 (boolV R).toArray) (bC : Blk w gC 4 (boolV C).toArray) (hRC : gR ≠ gC) (V : Env w) (hn : R.length ≤ 4096) (hnC : C.length ≤ 4096) (d a b c n g : Int) (hd : inR d R.length) (hdt : mb R d = true) (hk1 : 1 ≤ (24 : Int)) (hk2 : (24 : Int) ≤ 25) (ha : inR a R.length) (hb : inR b R.length) (hc : inR c R.length) (bd : Bool) (x0 : Int × Int × Int) (e0 : bits .and .i64 (usesK 24) 2 = x0.1) (e1 : bits .and .i64 (usesK 24) 4 = x0.2.1) (e2 : bits .and .i64 (usesK 24) 8 = x0.2.2) (hbd : anyB R (rdU x0 a b c 3) = bd) :
    Calls Tryd.prog 87 #[.agg #[.slice (some ⟨gR, 0, none⟩) R.length R.length, .slice (some ⟨gC, 0, none⟩) C.length C.length], .agg #[.int .i64 24, .int .i64 d, .int .i64 a, .int .i64 b, .int .i64 c, .int .i64 n, .int .i64 g]] w fun x w' => x = .returned (.bool false) ∧ Below w.heap.size w w' := by
  obtain ⟨W0, hW0⟩ : ∃ W0, W0 = (w.alloc (.cells #[.slice (some ⟨gR, 0, none⟩) R.length R.length, .slice (some ⟨gC, 0, none⟩) C.length C.length] 122)).alloc (.cells #[.int .i64 24, .int .i64 d, .int .i64 a, .int .i64 b, .int .i64 c, .int .i64 n, .int .i64 g] 76) := ⟨_, rfl⟩
  have hb0 : Below w.heap.size w W0 := by rw [hW0]; exact ((Below.refl _ _).alloc (Nat.le_refl _) _).alloc (by simp) _
  have bM : Blk W0 w.heap.size 122 #[.slice (some ⟨gR, 0, none⟩) R.length R.length, .slice (some ⟨gC, 0, none⟩) C.length C.length] := by rw [hW0]; exact (blk_new w rfl _ _).alloc _
  have bO : Blk W0 (w.heap.size + 1) 76 #[.int .i64 24, .int .i64 d, .int .i64 a, .int .i64 b, .int .i64 c, .int .i64 n, .int .i64 g] := by rw [hW0]; exact blk_new _ (by simp) _ _
  have q0 : W0.cell? ⟨w.heap.size + 1, 0, none⟩ = some (.int .i64 24) := (bO.cell 0).trans rfl
  have q1 : W0.cell? ⟨w.heap.size + 1, 1, none⟩ = some (.int .i64 d) := (bO.cell 1).trans rfl
  have q2 : W0.cell? ⟨w.heap.size + 1, 2, none⟩ = some (.int .i64 a) := (bO.cell 2).trans rfl
  have q3 : W0.cell? ⟨w.heap.size + 1, 3, none⟩ = some (.int .i64 b) := (bO.cell 3).trans rfl
  have q4 : W0.cell? ⟨w.heap.size + 1, 4, none⟩ = some (.int .i64 c) := (bO.cell 4).trans rfl
  have q5 : W0.cell? ⟨w.heap.size + 1, 5, none⟩ = some (.int .i64 n) := (bO.cell 5).trans rfl
  have q6 : W0.cell? ⟨w.heap.size + 1, 6, none⟩ = some (.int .i64 g) := (bO.cell 6).trans rfl
  have hmf : ∀ (fn : Fn) (first cap : Array Value) (w : World), (Instr.makeFunc fn first cap).run Tryd.prog w = .ok (.func fn first cap) w := fun _ _ _ _ => rfl
  have lR : gR < w.heap.size := bR.lt
  have lC : gC < w.heap.size := bC.lt
  have kr := read_any 24 d a b c n g hk1 hk2 x0 e0 e1 e2 W0 (V.below hb0)
  obtain ⟨l, hl⟩ : ∃ l, l = rdU x0 a b c 3 := ⟨_, rfl⟩
  have hl3 : l.length ≤ 16 := by rw [hl]; have := rdU_len (x := x0) (a := a) (b := b) (c := c) (j := 3); omega
  have hin : ∀ r ∈ l, inR r R.length := by
    rw [hl]; exact rdU_in ha hb hc
  rw [← hl] at kr hbd
  have HRW := Lib.hid (show Row (fun _ => True) W0 (.slice (some ⟨gR, 0, none⟩) R.length R.length) R.length 1 (boolV R) from bool_row (bR.fr (Fr.of_below (M := fun _ => False) hb0) not_false) hn)
  have KR := Lib.hid kr
  have HIN := Lib.hid hin
  have HBD := Lib.hid hbd
  have HW0 := Lib.hid hW0
  have HB0 := Lib.hid hb0
  have HBM := Lib.hid bM
  have HBO := Lib.hid bO
  have HBR := Lib.hid bR
  have HBC := Lib.hid bC
  clear bR bC V hb0 bM bO hW0 kr hin hbd hl e0 e1 e2 ha hb hc
  go_enter Tryd.func87, Tryd.ntmps87
  go_wp2_with (first
    | (go_at_call 104; (rw [← HW0.out]); refine (KR.out).mono ?_; rintro x w1 ⟨v, rfl, hv, hb1⟩; obtain ⟨A1, c1, rfl⟩ := own_shape hv; have hf1 := Fr.of_below (M := fun _ => False) hb1; have hM := HBM.out.fr hf1 not_false; have hO := HBO.out.fr hf1 not_false; have m0 : w1.cell? ⟨w.heap.size, 0, none⟩ = some (.slice (some ⟨gR, 0, none⟩) R.length R.length) := (hM.cell 0).trans rfl; have m1 : w1.cell? ⟨w.heap.size, 1, none⟩ = some (.slice (some ⟨gC, 0, none⟩) C.length C.length) := (hM.cell 1).trans rfl; have o0 : w1.cell? ⟨w.heap.size + 1, 0, none⟩ = some (.int .i64 24) := (hO.cell 0).trans rfl; have o1 : w1.cell? ⟨w.heap.size + 1, 1, none⟩ = some (.int .i64 d) := (hO.cell 1).trans rfl; have o2 : w1.cell? ⟨w.heap.size + 1, 2, none⟩ = some (.int .i64 a) := (hO.cell 2).trans rfl; have o3 : w1.cell? ⟨w.heap.size + 1, 3, none⟩ = some (.int .i64 b) := (hO.cell 3).trans rfl; have o4 : w1.cell? ⟨w.heap.size + 1, 4, none⟩ = some (.int .i64 c) := (hO.cell 4).trans rfl; have o5 : w1.cell? ⟨w.heap.size + 1, 5, none⟩ = some (.int .i64 n) := (hO.cell 5).trans rfl; have o6 : w1.cell? ⟨w.heap.size + 1, 6, none⟩ = some (.int .i64 g) := (hO.cell 6).trans rfl; have hcc : 0 < l.length → ∃ g o, A1 = some ⟨g, o, none⟩ ∧ ∀ j (hj : j < l.length), w1.cell? ⟨g, o + j, none⟩ = some (.int .i64 l[j]) := own_list hv; have kc := mayF_any (HRW.out.fr hf1 fun _ _ => not_false) hn w.heap.size m0 A1 c1 l hl3 HIN.out hcc; rw [HBD.out] at kc; have hbw : Below w.heap.size w w1 := HB0.out.trans (hb1.mono HB0.out.size); have hRw := HBR.out.fr (Fr.of_below (M := fun _ => False) hbw) not_false; have hCw := HBC.out.fr (Fr.of_below (M := fun _ => False) hbw) not_false; have cd := boolCell hRw hd.1 hd.2; rw [hdt] at cd; have fd := hRw.frozen d.toNat; have hd0 := hd.1; have hd1 := hd.2; have HRw := Lib.hid hRw; have HCw := Lib.hid hCw; have HBW := Lib.hid hbw; have KC := Lib.hid kc; clear hv hb1 hf1 hM hO hcc kc hbw hRw hCw)
    | (go_at_call 92; refine (KC.out).mono ?_; rintro x w3 ⟨rfl, rfl⟩))
  go_ret
  exact ⟨rfl, HBW.out⟩

set_option maxRecDepth 100000 in
set_option maxHeartbeats 2000000 in
theorem spread_24_new (bR : Blk w gR 4 (boolV R).toArray) (bC : Blk w gC 4 (boolV C).toArray) (hRC : gR ≠ gC) (V : Env w) (hn : R.length ≤ 4096) (hnC : C.length ≤ 4096) (d a b c n g : Int) (hd : inR d R.length) (hdt : mb R d = false) (hk1 : 1 ≤ (24 : Int)) (hk2 : (24 : Int) ≤ 25) (ha : inR a R.length) (hb : inR b R.length) (hc : inR c R.length) (bd : Bool) (x0 : Int × Int × Int) (e0 : bits .and .i64 (usesK 24) 2 = x0.1) (e1 : bits .and .i64 (usesK 24) 4 = x0.2.1) (e2 : bits .and .i64 (usesK 24) 8 = x0.2.2) (hbd : anyB R (rdU x0 a b c 3) = bd) :
    Calls Tryd.prog 87 #[.agg #[.slice (some ⟨gR, 0, none⟩) R.length R.length, .slice (some ⟨gC, 0, none⟩) C.length C.length], .agg #[.int .i64 24, .int .i64 d, .int .i64 a, .int .i64 b, .int .i64 c, .int .i64 n, .int .i64 g]] w fun x w' => x = .returned (.bool true) ∧ Blk w' gR 4 (boolV (R.set (d).toNat true)).toArray ∧ Blk w' gC 4 (boolV C).toArray ∧ Fr (fun b => b = gR ∨ b = gC) w w' := by
  obtain ⟨W0, hW0⟩ : ∃ W0, W0 = (w.alloc (.cells #[.slice (some ⟨gR, 0, none⟩) R.length R.length, .slice (some ⟨gC, 0, none⟩) C.length C.length] 122)).alloc (.cells #[.int .i64 24, .int .i64 d, .int .i64 a, .int .i64 b, .int .i64 c, .int .i64 n, .int .i64 g] 76) := ⟨_, rfl⟩
  have hb0 : Below w.heap.size w W0 := by rw [hW0]; exact ((Below.refl _ _).alloc (Nat.le_refl _) _).alloc (by simp) _
  have bM : Blk W0 w.heap.size 122 #[.slice (some ⟨gR, 0, none⟩) R.length R.length, .slice (some ⟨gC, 0, none⟩) C.length C.length] := by rw [hW0]; exact (blk_new w rfl _ _).alloc _
  have bO : Blk W0 (w.heap.size + 1) 76 #[.int .i64 24, .int .i64 d, .int .i64 a, .int .i64 b, .int .i64 c, .int .i64 n, .int .i64 g] := by rw [hW0]; exact blk_new _ (by simp) _ _
  have q0 : W0.cell? ⟨w.heap.size + 1, 0, none⟩ = some (.int .i64 24) := (bO.cell 0).trans rfl
  have q1 : W0.cell? ⟨w.heap.size + 1, 1, none⟩ = some (.int .i64 d) := (bO.cell 1).trans rfl
  have q2 : W0.cell? ⟨w.heap.size + 1, 2, none⟩ = some (.int .i64 a) := (bO.cell 2).trans rfl
  have q3 : W0.cell? ⟨w.heap.size + 1, 3, none⟩ = some (.int .i64 b) := (bO.cell 3).trans rfl
  have q4 : W0.cell? ⟨w.heap.size + 1, 4, none⟩ = some (.int .i64 c) := (bO.cell 4).trans rfl
  have q5 : W0.cell? ⟨w.heap.size + 1, 5, none⟩ = some (.int .i64 n) := (bO.cell 5).trans rfl
  have q6 : W0.cell? ⟨w.heap.size + 1, 6, none⟩ = some (.int .i64 g) := (bO.cell 6).trans rfl
  have hmf : ∀ (fn : Fn) (first cap : Array Value) (w : World), (Instr.makeFunc fn first cap).run Tryd.prog w = .ok (.func fn first cap) w := fun _ _ _ _ => rfl
  have lR : gR < w.heap.size := bR.lt
  have lC : gC < w.heap.size := bC.lt
  have kr := read_any 24 d a b c n g hk1 hk2 x0 e0 e1 e2 W0 (V.below hb0)
  obtain ⟨l, hl⟩ : ∃ l, l = rdU x0 a b c 3 := ⟨_, rfl⟩
  have hl3 : l.length ≤ 16 := by rw [hl]; have := rdU_len (x := x0) (a := a) (b := b) (c := c) (j := 3); omega
  have hin : ∀ r ∈ l, inR r R.length := by
    rw [hl]; exact rdU_in ha hb hc
  rw [← hl] at kr hbd
  have HRW := Lib.hid (show Row (fun _ => True) W0 (.slice (some ⟨gR, 0, none⟩) R.length R.length) R.length 1 (boolV R) from bool_row (bR.fr (Fr.of_below (M := fun _ => False) hb0) not_false) hn)
  have KR := Lib.hid kr
  have HIN := Lib.hid hin
  have HBD := Lib.hid hbd
  have HW0 := Lib.hid hW0
  have HB0 := Lib.hid hb0
  have HBM := Lib.hid bM
  have HBO := Lib.hid bO
  have HBR := Lib.hid bR
  have HBC := Lib.hid bC
  clear bR bC V hb0 bM bO hW0 kr hin hbd hl e0 e1 e2 ha hb hc
  go_enter Tryd.func87, Tryd.ntmps87
  go_wp2_with (first
    | (go_at_call 104; (rw [← HW0.out]); refine (KR.out).mono ?_; rintro x w1 ⟨v, rfl, hv, hb1⟩; obtain ⟨A1, c1, rfl⟩ := own_shape hv; have hf1 := Fr.of_below (M := fun _ => False) hb1; have hM := HBM.out.fr hf1 not_false; have hO := HBO.out.fr hf1 not_false; have m0 : w1.cell? ⟨w.heap.size, 0, none⟩ = some (.slice (some ⟨gR, 0, none⟩) R.length R.length) := (hM.cell 0).trans rfl; have m1 : w1.cell? ⟨w.heap.size, 1, none⟩ = some (.slice (some ⟨gC, 0, none⟩) C.length C.length) := (hM.cell 1).trans rfl; have o0 : w1.cell? ⟨w.heap.size + 1, 0, none⟩ = some (.int .i64 24) := (hO.cell 0).trans rfl; have o1 : w1.cell? ⟨w.heap.size + 1, 1, none⟩ = some (.int .i64 d) := (hO.cell 1).trans rfl; have o2 : w1.cell? ⟨w.heap.size + 1, 2, none⟩ = some (.int .i64 a) := (hO.cell 2).trans rfl; have o3 : w1.cell? ⟨w.heap.size + 1, 3, none⟩ = some (.int .i64 b) := (hO.cell 3).trans rfl; have o4 : w1.cell? ⟨w.heap.size + 1, 4, none⟩ = some (.int .i64 c) := (hO.cell 4).trans rfl; have o5 : w1.cell? ⟨w.heap.size + 1, 5, none⟩ = some (.int .i64 n) := (hO.cell 5).trans rfl; have o6 : w1.cell? ⟨w.heap.size + 1, 6, none⟩ = some (.int .i64 g) := (hO.cell 6).trans rfl; have hcc : 0 < l.length → ∃ g o, A1 = some ⟨g, o, none⟩ ∧ ∀ j (hj : j < l.length), w1.cell? ⟨g, o + j, none⟩ = some (.int .i64 l[j]) := own_list hv; have kc := mayF_any (HRW.out.fr hf1 fun _ _ => not_false) hn w.heap.size m0 A1 c1 l hl3 HIN.out hcc; rw [HBD.out] at kc; have hbw : Below w.heap.size w w1 := HB0.out.trans (hb1.mono HB0.out.size); have hRw := HBR.out.fr (Fr.of_below (M := fun _ => False) hbw) not_false; have hCw := HBC.out.fr (Fr.of_below (M := fun _ => False) hbw) not_false; have cd := boolCell hRw hd.1 hd.2; rw [hdt] at cd; have fd := hRw.frozen d.toNat; have hd0 := hd.1; have hd1 := hd.2; have HRw := Lib.hid hRw; have HCw := Lib.hid hCw; have HBW := Lib.hid hbw; have KC := Lib.hid kc; clear hv hb1 hf1 hM hO hcc kc hbw hRw hCw)
    | (go_at_call 92; refine (KC.out).mono ?_; rintro x w3 ⟨rfl, rfl⟩))
  go_ret
  exact ⟨rfl, boolSet (HRw.out) (d).toNat, (HCw.out).far (p := ⟨gR, (d).toNat, none⟩) hRC.symm _, ((Fr.of_below HBW.out)).setCell (p := ⟨gR, (d).toNat, none⟩) (.inl (.inl rfl)) _⟩

set_option maxRecDepth 100000 in
set_option maxHeartbeats 2000000 in
theorem spread_25_old (bR : Blk w gR 4 (boolV R).toArray) (bC : Blk w gC 4 (boolV C).toArray) (hRC : gR ≠ gC) (V : Env w) (hn : R.length ≤ 4096) (hnC : C.length ≤ 4096) (d a b c n g : Int) (hd : inR d R.length) (hdt : mb R d = true) (hk1 : 1 ≤ (25 : Int)) (hk2 : (25 : Int) ≤ 25) (ha : inR a R.length) (hb : inR b R.length) (hc : inR c R.length) (bd : Bool) (x0 : Int × Int × Int) (e0 : bits .and .i64 (usesK 25) 2 = x0.1) (e1 : bits .and .i64 (usesK 25) 4 = x0.2.1) (e2 : bits .and .i64 (usesK 25) 8 = x0.2.2) (hbd : anyB R (rdU x0 a b c 3) = bd) :
    Calls Tryd.prog 87 #[.agg #[.slice (some ⟨gR, 0, none⟩) R.length R.length, .slice (some ⟨gC, 0, none⟩) C.length C.length], .agg #[.int .i64 25, .int .i64 d, .int .i64 a, .int .i64 b, .int .i64 c, .int .i64 n, .int .i64 g]] w fun x w' => x = .returned (.bool false) ∧ Below w.heap.size w w' := by
  obtain ⟨W0, hW0⟩ : ∃ W0, W0 = (w.alloc (.cells #[.slice (some ⟨gR, 0, none⟩) R.length R.length, .slice (some ⟨gC, 0, none⟩) C.length C.length] 122)).alloc (.cells #[.int .i64 25, .int .i64 d, .int .i64 a, .int .i64 b, .int .i64 c, .int .i64 n, .int .i64 g] 76) := ⟨_, rfl⟩
  have hb0 : Below w.heap.size w W0 := by rw [hW0]; exact ((Below.refl _ _).alloc (Nat.le_refl _) _).alloc (by simp) _
  have bM : Blk W0 w.heap.size 122 #[.slice (some ⟨gR, 0, none⟩) R.length R.length, .slice (some ⟨gC, 0, none⟩) C.length C.length] := by rw [hW0]; exact (blk_new w rfl _ _).alloc _
  have bO : Blk W0 (w.heap.size + 1) 76 #[.int .i64 25, .int .i64 d, .int .i64 a, .int .i64 b, .int .i64 c, .int .i64 n, .int .i64 g] := by rw [hW0]; exact blk_new _ (by simp) _ _
  have q0 : W0.cell? ⟨w.heap.size + 1, 0, none⟩ = some (.int .i64 25) := (bO.cell 0).trans rfl
  have q1 : W0.cell? ⟨w.heap.size + 1, 1, none⟩ = some (.int .i64 d) := (bO.cell 1).trans rfl
  have q2 : W0.cell? ⟨w.heap.size + 1, 2, none⟩ = some (.int .i64 a) := (bO.cell 2).trans rfl
  have q3 : W0.cell? ⟨w.heap.size + 1, 3, none⟩ = some (.int .i64 b) := (bO.cell 3).trans rfl
  have q4 : W0.cell? ⟨w.heap.size + 1, 4, none⟩ = some (.int .i64 c) := (bO.cell 4).trans rfl
  have q5 : W0.cell? ⟨w.heap.size + 1, 5, none⟩ = some (.int .i64 n) := (bO.cell 5).trans rfl
  have q6 : W0.cell? ⟨w.heap.size + 1, 6, none⟩ = some (.int .i64 g) := (bO.cell 6).trans rfl
  have hmf : ∀ (fn : Fn) (first cap : Array Value) (w : World), (Instr.makeFunc fn first cap).run Tryd.prog w = .ok (.func fn first cap) w := fun _ _ _ _ => rfl
  have lR : gR < w.heap.size := bR.lt
  have lC : gC < w.heap.size := bC.lt
  have kr := read_any 25 d a b c n g hk1 hk2 x0 e0 e1 e2 W0 (V.below hb0)
  obtain ⟨l, hl⟩ : ∃ l, l = rdU x0 a b c 3 := ⟨_, rfl⟩
  have hl3 : l.length ≤ 16 := by rw [hl]; have := rdU_len (x := x0) (a := a) (b := b) (c := c) (j := 3); omega
  have hin : ∀ r ∈ l, inR r R.length := by
    rw [hl]; exact rdU_in ha hb hc
  rw [← hl] at kr hbd
  have HRW := Lib.hid (show Row (fun _ => True) W0 (.slice (some ⟨gR, 0, none⟩) R.length R.length) R.length 1 (boolV R) from bool_row (bR.fr (Fr.of_below (M := fun _ => False) hb0) not_false) hn)
  have KR := Lib.hid kr
  have HIN := Lib.hid hin
  have HBD := Lib.hid hbd
  have HW0 := Lib.hid hW0
  have HB0 := Lib.hid hb0
  have HBM := Lib.hid bM
  have HBO := Lib.hid bO
  have HBR := Lib.hid bR
  have HBC := Lib.hid bC
  clear bR bC V hb0 bM bO hW0 kr hin hbd hl e0 e1 e2 ha hb hc
  go_enter Tryd.func87, Tryd.ntmps87
  go_wp2_with (first
    | (go_at_call 104; (rw [← HW0.out]); refine (KR.out).mono ?_; rintro x w1 ⟨v, rfl, hv, hb1⟩; obtain ⟨A1, c1, rfl⟩ := own_shape hv; have hf1 := Fr.of_below (M := fun _ => False) hb1; have hM := HBM.out.fr hf1 not_false; have hO := HBO.out.fr hf1 not_false; have m0 : w1.cell? ⟨w.heap.size, 0, none⟩ = some (.slice (some ⟨gR, 0, none⟩) R.length R.length) := (hM.cell 0).trans rfl; have m1 : w1.cell? ⟨w.heap.size, 1, none⟩ = some (.slice (some ⟨gC, 0, none⟩) C.length C.length) := (hM.cell 1).trans rfl; have o0 : w1.cell? ⟨w.heap.size + 1, 0, none⟩ = some (.int .i64 25) := (hO.cell 0).trans rfl; have o1 : w1.cell? ⟨w.heap.size + 1, 1, none⟩ = some (.int .i64 d) := (hO.cell 1).trans rfl; have o2 : w1.cell? ⟨w.heap.size + 1, 2, none⟩ = some (.int .i64 a) := (hO.cell 2).trans rfl; have o3 : w1.cell? ⟨w.heap.size + 1, 3, none⟩ = some (.int .i64 b) := (hO.cell 3).trans rfl; have o4 : w1.cell? ⟨w.heap.size + 1, 4, none⟩ = some (.int .i64 c) := (hO.cell 4).trans rfl; have o5 : w1.cell? ⟨w.heap.size + 1, 5, none⟩ = some (.int .i64 n) := (hO.cell 5).trans rfl; have o6 : w1.cell? ⟨w.heap.size + 1, 6, none⟩ = some (.int .i64 g) := (hO.cell 6).trans rfl; have hcc : 0 < l.length → ∃ g o, A1 = some ⟨g, o, none⟩ ∧ ∀ j (hj : j < l.length), w1.cell? ⟨g, o + j, none⟩ = some (.int .i64 l[j]) := own_list hv; have kc := mayF_any (HRW.out.fr hf1 fun _ _ => not_false) hn w.heap.size m0 A1 c1 l hl3 HIN.out hcc; rw [HBD.out] at kc; have hbw : Below w.heap.size w w1 := HB0.out.trans (hb1.mono HB0.out.size); have hRw := HBR.out.fr (Fr.of_below (M := fun _ => False) hbw) not_false; have hCw := HBC.out.fr (Fr.of_below (M := fun _ => False) hbw) not_false; have cd := boolCell hRw hd.1 hd.2; rw [hdt] at cd; have fd := hRw.frozen d.toNat; have hd0 := hd.1; have hd1 := hd.2; have HRw := Lib.hid hRw; have HCw := Lib.hid hCw; have HBW := Lib.hid hbw; have KC := Lib.hid kc; clear hv hb1 hf1 hM hO hcc kc hbw hRw hCw)
    | (go_at_call 92; refine (KC.out).mono ?_; rintro x w3 ⟨rfl, rfl⟩))
  go_ret
  exact ⟨rfl, HBW.out⟩

set_option maxRecDepth 100000 in
set_option maxHeartbeats 2000000 in
theorem spread_25_new (bR : Blk w gR 4 (boolV R).toArray) (bC : Blk w gC 4 (boolV C).toArray) (hRC : gR ≠ gC) (V : Env w) (hn : R.length ≤ 4096) (hnC : C.length ≤ 4096) (d a b c n g : Int) (hd : inR d R.length) (hdt : mb R d = false) (hk1 : 1 ≤ (25 : Int)) (hk2 : (25 : Int) ≤ 25) (ha : inR a R.length) (hb : inR b R.length) (hc : inR c R.length) (bd : Bool) (x0 : Int × Int × Int) (e0 : bits .and .i64 (usesK 25) 2 = x0.1) (e1 : bits .and .i64 (usesK 25) 4 = x0.2.1) (e2 : bits .and .i64 (usesK 25) 8 = x0.2.2) (hbd : anyB R (rdU x0 a b c 3) = bd) :
    Calls Tryd.prog 87 #[.agg #[.slice (some ⟨gR, 0, none⟩) R.length R.length, .slice (some ⟨gC, 0, none⟩) C.length C.length], .agg #[.int .i64 25, .int .i64 d, .int .i64 a, .int .i64 b, .int .i64 c, .int .i64 n, .int .i64 g]] w fun x w' => x = .returned (.bool true) ∧ Blk w' gR 4 (boolV (R.set (d).toNat true)).toArray ∧ Blk w' gC 4 (boolV C).toArray ∧ Fr (fun b => b = gR ∨ b = gC) w w' := by
  obtain ⟨W0, hW0⟩ : ∃ W0, W0 = (w.alloc (.cells #[.slice (some ⟨gR, 0, none⟩) R.length R.length, .slice (some ⟨gC, 0, none⟩) C.length C.length] 122)).alloc (.cells #[.int .i64 25, .int .i64 d, .int .i64 a, .int .i64 b, .int .i64 c, .int .i64 n, .int .i64 g] 76) := ⟨_, rfl⟩
  have hb0 : Below w.heap.size w W0 := by rw [hW0]; exact ((Below.refl _ _).alloc (Nat.le_refl _) _).alloc (by simp) _
  have bM : Blk W0 w.heap.size 122 #[.slice (some ⟨gR, 0, none⟩) R.length R.length, .slice (some ⟨gC, 0, none⟩) C.length C.length] := by rw [hW0]; exact (blk_new w rfl _ _).alloc _
  have bO : Blk W0 (w.heap.size + 1) 76 #[.int .i64 25, .int .i64 d, .int .i64 a, .int .i64 b, .int .i64 c, .int .i64 n, .int .i64 g] := by rw [hW0]; exact blk_new _ (by simp) _ _
  have q0 : W0.cell? ⟨w.heap.size + 1, 0, none⟩ = some (.int .i64 25) := (bO.cell 0).trans rfl
  have q1 : W0.cell? ⟨w.heap.size + 1, 1, none⟩ = some (.int .i64 d) := (bO.cell 1).trans rfl
  have q2 : W0.cell? ⟨w.heap.size + 1, 2, none⟩ = some (.int .i64 a) := (bO.cell 2).trans rfl
  have q3 : W0.cell? ⟨w.heap.size + 1, 3, none⟩ = some (.int .i64 b) := (bO.cell 3).trans rfl
  have q4 : W0.cell? ⟨w.heap.size + 1, 4, none⟩ = some (.int .i64 c) := (bO.cell 4).trans rfl
  have q5 : W0.cell? ⟨w.heap.size + 1, 5, none⟩ = some (.int .i64 n) := (bO.cell 5).trans rfl
  have q6 : W0.cell? ⟨w.heap.size + 1, 6, none⟩ = some (.int .i64 g) := (bO.cell 6).trans rfl
  have hmf : ∀ (fn : Fn) (first cap : Array Value) (w : World), (Instr.makeFunc fn first cap).run Tryd.prog w = .ok (.func fn first cap) w := fun _ _ _ _ => rfl
  have lR : gR < w.heap.size := bR.lt
  have lC : gC < w.heap.size := bC.lt
  have kr := read_any 25 d a b c n g hk1 hk2 x0 e0 e1 e2 W0 (V.below hb0)
  obtain ⟨l, hl⟩ : ∃ l, l = rdU x0 a b c 3 := ⟨_, rfl⟩
  have hl3 : l.length ≤ 16 := by rw [hl]; have := rdU_len (x := x0) (a := a) (b := b) (c := c) (j := 3); omega
  have hin : ∀ r ∈ l, inR r R.length := by
    rw [hl]; exact rdU_in ha hb hc
  rw [← hl] at kr hbd
  have HRW := Lib.hid (show Row (fun _ => True) W0 (.slice (some ⟨gR, 0, none⟩) R.length R.length) R.length 1 (boolV R) from bool_row (bR.fr (Fr.of_below (M := fun _ => False) hb0) not_false) hn)
  have KR := Lib.hid kr
  have HIN := Lib.hid hin
  have HBD := Lib.hid hbd
  have HW0 := Lib.hid hW0
  have HB0 := Lib.hid hb0
  have HBM := Lib.hid bM
  have HBO := Lib.hid bO
  have HBR := Lib.hid bR
  have HBC := Lib.hid bC
  clear bR bC V hb0 bM bO hW0 kr hin hbd hl e0 e1 e2 ha hb hc
  go_enter Tryd.func87, Tryd.ntmps87
  go_wp2_with (first
    | (go_at_call 104; (rw [← HW0.out]); refine (KR.out).mono ?_; rintro x w1 ⟨v, rfl, hv, hb1⟩; obtain ⟨A1, c1, rfl⟩ := own_shape hv; have hf1 := Fr.of_below (M := fun _ => False) hb1; have hM := HBM.out.fr hf1 not_false; have hO := HBO.out.fr hf1 not_false; have m0 : w1.cell? ⟨w.heap.size, 0, none⟩ = some (.slice (some ⟨gR, 0, none⟩) R.length R.length) := (hM.cell 0).trans rfl; have m1 : w1.cell? ⟨w.heap.size, 1, none⟩ = some (.slice (some ⟨gC, 0, none⟩) C.length C.length) := (hM.cell 1).trans rfl; have o0 : w1.cell? ⟨w.heap.size + 1, 0, none⟩ = some (.int .i64 25) := (hO.cell 0).trans rfl; have o1 : w1.cell? ⟨w.heap.size + 1, 1, none⟩ = some (.int .i64 d) := (hO.cell 1).trans rfl; have o2 : w1.cell? ⟨w.heap.size + 1, 2, none⟩ = some (.int .i64 a) := (hO.cell 2).trans rfl; have o3 : w1.cell? ⟨w.heap.size + 1, 3, none⟩ = some (.int .i64 b) := (hO.cell 3).trans rfl; have o4 : w1.cell? ⟨w.heap.size + 1, 4, none⟩ = some (.int .i64 c) := (hO.cell 4).trans rfl; have o5 : w1.cell? ⟨w.heap.size + 1, 5, none⟩ = some (.int .i64 n) := (hO.cell 5).trans rfl; have o6 : w1.cell? ⟨w.heap.size + 1, 6, none⟩ = some (.int .i64 g) := (hO.cell 6).trans rfl; have hcc : 0 < l.length → ∃ g o, A1 = some ⟨g, o, none⟩ ∧ ∀ j (hj : j < l.length), w1.cell? ⟨g, o + j, none⟩ = some (.int .i64 l[j]) := own_list hv; have kc := mayF_any (HRW.out.fr hf1 fun _ _ => not_false) hn w.heap.size m0 A1 c1 l hl3 HIN.out hcc; rw [HBD.out] at kc; have hbw : Below w.heap.size w w1 := HB0.out.trans (hb1.mono HB0.out.size); have hRw := HBR.out.fr (Fr.of_below (M := fun _ => False) hbw) not_false; have hCw := HBC.out.fr (Fr.of_below (M := fun _ => False) hbw) not_false; have cd := boolCell hRw hd.1 hd.2; rw [hdt] at cd; have fd := hRw.frozen d.toNat; have hd0 := hd.1; have hd1 := hd.2; have HRw := Lib.hid hRw; have HCw := Lib.hid hCw; have HBW := Lib.hid hbw; have KC := Lib.hid kc; clear hv hb1 hf1 hM hO hcc kc hbw hRw hCw)
    | (go_at_call 92; refine (KC.out).mono ?_; rintro x w3 ⟨rfl, rfl⟩))
  go_ret
  exact ⟨rfl, boolSet (HRw.out) (d).toNat, (HCw.out).far (p := ⟨gR, (d).toNat, none⟩) hRC.symm _, ((Fr.of_below HBW.out)).setCell (p := ⟨gR, (d).toNat, none⟩) (.inl (.inl rfl)) _⟩

set_option maxRecDepth 100000 in
set_option maxHeartbeats 2000000 in
theorem spread_19_no (bR : Blk w gR 4 (boolV R).toArray) (bC : Blk w gC 4 (boolV C).toArray) (hRC : gR ≠ gC) (V : Env w) (hn : R.length ≤ 4096) (hnC : C.length ≤ 4096) (d a b c n g : Int) (hm : inR n C.length) (hmt : mb C n = true ∨ mb C n = false) (hk1 : 1 ≤ (19 : Int)) (hk2 : (19 : Int) ≤ 25) (ha : inR a R.length) (hb : inR b R.length) (hc : inR c R.length) (x0 : Int × Int × Int) (e0 : bits .and .i64 (usesK 19) 2 = x0.1) (e1 : bits .and .i64 (usesK 19) 4 = x0.2.1) (e2 : bits .and .i64 (usesK 19) 8 = x0.2.2) (hbd : anyB R (rdU x0 a b c 3) = false) :
    Calls Tryd.prog 87 #[.agg #[.slice (some ⟨gR, 0, none⟩) R.length R.length, .slice (some ⟨gC, 0, none⟩) C.length C.length], .agg #[.int .i64 19, .int .i64 d, .int .i64 a, .int .i64 b, .int .i64 c, .int .i64 n, .int .i64 g]] w fun x w' => x = .returned (.bool false) ∧ Below w.heap.size w w' := by
  obtain ⟨W0, hW0⟩ : ∃ W0, W0 = (w.alloc (.cells #[.slice (some ⟨gR, 0, none⟩) R.length R.length, .slice (some ⟨gC, 0, none⟩) C.length C.length] 122)).alloc (.cells #[.int .i64 19, .int .i64 d, .int .i64 a, .int .i64 b, .int .i64 c, .int .i64 n, .int .i64 g] 76) := ⟨_, rfl⟩
  have hb0 : Below w.heap.size w W0 := by rw [hW0]; exact ((Below.refl _ _).alloc (Nat.le_refl _) _).alloc (by simp) _
  have bM : Blk W0 w.heap.size 122 #[.slice (some ⟨gR, 0, none⟩) R.length R.length, .slice (some ⟨gC, 0, none⟩) C.length C.length] := by rw [hW0]; exact (blk_new w rfl _ _).alloc _
  have bO : Blk W0 (w.heap.size + 1) 76 #[.int .i64 19, .int .i64 d, .int .i64 a, .int .i64 b, .int .i64 c, .int .i64 n, .int .i64 g] := by rw [hW0]; exact blk_new _ (by simp) _ _
  have q0 : W0.cell? ⟨w.heap.size + 1, 0, none⟩ = some (.int .i64 19) := (bO.cell 0).trans rfl
  have q1 : W0.cell? ⟨w.heap.size + 1, 1, none⟩ = some (.int .i64 d) := (bO.cell 1).trans rfl
  have q2 : W0.cell? ⟨w.heap.size + 1, 2, none⟩ = some (.int .i64 a) := (bO.cell 2).trans rfl
  have q3 : W0.cell? ⟨w.heap.size + 1, 3, none⟩ = some (.int .i64 b) := (bO.cell 3).trans rfl
  have q4 : W0.cell? ⟨w.heap.size + 1, 4, none⟩ = some (.int .i64 c) := (bO.cell 4).trans rfl
  have q5 : W0.cell? ⟨w.heap.size + 1, 5, none⟩ = some (.int .i64 n) := (bO.cell 5).trans rfl
  have q6 : W0.cell? ⟨w.heap.size + 1, 6, none⟩ = some (.int .i64 g) := (bO.cell 6).trans rfl
  have hmf : ∀ (fn : Fn) (first cap : Array Value) (w : World), (Instr.makeFunc fn first cap).run Tryd.prog w = .ok (.func fn first cap) w := fun _ _ _ _ => rfl
  have lR : gR < w.heap.size := bR.lt
  have lC : gC < w.heap.size := bC.lt
  have kr := read_any 19 d a b c n g hk1 hk2 x0 e0 e1 e2 W0 (V.below hb0)
  obtain ⟨l, hl⟩ : ∃ l, l = rdU x0 a b c 3 := ⟨_, rfl⟩
  have hl3 : l.length ≤ 16 := by rw [hl]; have := rdU_len (x := x0) (a := a) (b := b) (c := c) (j := 3); omega
  have hin : ∀ r ∈ l, inR r R.length := by
    rw [hl]; exact rdU_in ha hb hc
  rw [← hl] at kr hbd
  have HRW := Lib.hid (show Row (fun _ => True) W0 (.slice (some ⟨gR, 0, none⟩) R.length R.length) R.length 1 (boolV R) from bool_row (bR.fr (Fr.of_below (M := fun _ => False) hb0) not_false) hn)
  have KR := Lib.hid kr
  have HIN := Lib.hid hin
  have HBD := Lib.hid hbd
  have HW0 := Lib.hid hW0
  have HB0 := Lib.hid hb0
  have HBM := Lib.hid bM
  have HBO := Lib.hid bO
  have HBR := Lib.hid bR
  have HBC := Lib.hid bC
  clear bR bC V hb0 bM bO hW0 kr hin hbd hl e0 e1 e2 ha hb hc
  go_enter Tryd.func87, Tryd.ntmps87
  go_wp2_with (first
    | (go_at_call 104; (rw [← HW0.out]); refine (KR.out).mono ?_; rintro x w1 ⟨v, rfl, hv, hb1⟩; obtain ⟨A1, c1, rfl⟩ := own_shape hv; have hf1 := Fr.of_below (M := fun _ => False) hb1; have hM := HBM.out.fr hf1 not_false; have hO := HBO.out.fr hf1 not_false; have m0 : w1.cell? ⟨w.heap.size, 0, none⟩ = some (.slice (some ⟨gR, 0, none⟩) R.length R.length) := (hM.cell 0).trans rfl; have m1 : w1.cell? ⟨w.heap.size, 1, none⟩ = some (.slice (some ⟨gC, 0, none⟩) C.length C.length) := (hM.cell 1).trans rfl; have o0 : w1.cell? ⟨w.heap.size + 1, 0, none⟩ = some (.int .i64 19) := (hO.cell 0).trans rfl; have o1 : w1.cell? ⟨w.heap.size + 1, 1, none⟩ = some (.int .i64 d) := (hO.cell 1).trans rfl; have o2 : w1.cell? ⟨w.heap.size + 1, 2, none⟩ = some (.int .i64 a) := (hO.cell 2).trans rfl; have o3 : w1.cell? ⟨w.heap.size + 1, 3, none⟩ = some (.int .i64 b) := (hO.cell 3).trans rfl; have o4 : w1.cell? ⟨w.heap.size + 1, 4, none⟩ = some (.int .i64 c) := (hO.cell 4).trans rfl; have o5 : w1.cell? ⟨w.heap.size + 1, 5, none⟩ = some (.int .i64 n) := (hO.cell 5).trans rfl; have o6 : w1.cell? ⟨w.heap.size + 1, 6, none⟩ = some (.int .i64 g) := (hO.cell 6).trans rfl; have hcc : 0 < l.length → ∃ g o, A1 = some ⟨g, o, none⟩ ∧ ∀ j (hj : j < l.length), w1.cell? ⟨g, o + j, none⟩ = some (.int .i64 l[j]) := own_list hv; have kc := mayF_any (HRW.out.fr hf1 fun _ _ => not_false) hn w.heap.size m0 A1 c1 l hl3 HIN.out hcc; rw [HBD.out] at kc; have hbw : Below w.heap.size w w1 := HB0.out.trans (hb1.mono HB0.out.size); have hRw := HBR.out.fr (Fr.of_below (M := fun _ => False) hbw) not_false; have hCw := HBC.out.fr (Fr.of_below (M := fun _ => False) hbw) not_false;  have HRw := Lib.hid hRw; have HCw := Lib.hid hCw; have HBW := Lib.hid hbw; have KC := Lib.hid kc; clear hv hb1 hf1 hM hO hcc kc hbw hRw hCw)
    | (go_at_call 92; refine (KC.out).mono ?_; rintro x w3 ⟨rfl, rfl⟩))
  go_quiet (fail)
  go_wp2
  go_ret
  exact ⟨rfl, drewN_below HBW.out _⟩

set_option maxRecDepth 100000 in
set_option maxHeartbeats 2000000 in
theorem spread_19_old (bR : Blk w gR 4 (boolV R).toArray) (bC : Blk w gC 4 (boolV C).toArray) (hRC : gR ≠ gC) (V : Env w) (hn : R.length ≤ 4096) (hnC : C.length ≤ 4096) (d a b c n g : Int) (hm : inR n C.length) (hmt : mb C n = true) (hk1 : 1 ≤ (19 : Int)) (hk2 : (19 : Int) ≤ 25) (ha : inR a R.length) (hb : inR b R.length) (hc : inR c R.length) (x0 : Int × Int × Int) (e0 : bits .and .i64 (usesK 19) 2 = x0.1) (e1 : bits .and .i64 (usesK 19) 4 = x0.2.1) (e2 : bits .and .i64 (usesK 19) 8 = x0.2.2) (hbd : anyB R (rdU x0 a b c 3) = true) :
    Calls Tryd.prog 87 #[.agg #[.slice (some ⟨gR, 0, none⟩) R.length R.length, .slice (some ⟨gC, 0, none⟩) C.length C.length], .agg #[.int .i64 19, .int .i64 d, .int .i64 a, .int .i64 b, .int .i64 c, .int .i64 n, .int .i64 g]] w fun x w' => x = .returned (.bool false) ∧ Below w.heap.size w w' := by
  obtain ⟨W0, hW0⟩ : ∃ W0, W0 = (w.alloc (.cells #[.slice (some ⟨gR, 0, none⟩) R.length R.length, .slice (some ⟨gC, 0, none⟩) C.length C.length] 122)).alloc (.cells #[.int .i64 19, .int .i64 d, .int .i64 a, .int .i64 b, .int .i64 c, .int .i64 n, .int .i64 g] 76) := ⟨_, rfl⟩
  have hb0 : Below w.heap.size w W0 := by rw [hW0]; exact ((Below.refl _ _).alloc (Nat.le_refl _) _).alloc (by simp) _
  have bM : Blk W0 w.heap.size 122 #[.slice (some ⟨gR, 0, none⟩) R.length R.length, .slice (some ⟨gC, 0, none⟩) C.length C.length] := by rw [hW0]; exact (blk_new w rfl _ _).alloc _
  have bO : Blk W0 (w.heap.size + 1) 76 #[.int .i64 19, .int .i64 d, .int .i64 a, .int .i64 b, .int .i64 c, .int .i64 n, .int .i64 g] := by rw [hW0]; exact blk_new _ (by simp) _ _
  have q0 : W0.cell? ⟨w.heap.size + 1, 0, none⟩ = some (.int .i64 19) := (bO.cell 0).trans rfl
  have q1 : W0.cell? ⟨w.heap.size + 1, 1, none⟩ = some (.int .i64 d) := (bO.cell 1).trans rfl
  have q2 : W0.cell? ⟨w.heap.size + 1, 2, none⟩ = some (.int .i64 a) := (bO.cell 2).trans rfl
  have q3 : W0.cell? ⟨w.heap.size + 1, 3, none⟩ = some (.int .i64 b) := (bO.cell 3).trans rfl
  have q4 : W0.cell? ⟨w.heap.size + 1, 4, none⟩ = some (.int .i64 c) := (bO.cell 4).trans rfl
  have q5 : W0.cell? ⟨w.heap.size + 1, 5, none⟩ = some (.int .i64 n) := (bO.cell 5).trans rfl
  have q6 : W0.cell? ⟨w.heap.size + 1, 6, none⟩ = some (.int .i64 g) := (bO.cell 6).trans rfl
  have hmf : ∀ (fn : Fn) (first cap : Array Value) (w : World), (Instr.makeFunc fn first cap).run Tryd.prog w = .ok (.func fn first cap) w := fun _ _ _ _ => rfl
  have lR : gR < w.heap.size := bR.lt
  have lC : gC < w.heap.size := bC.lt
  have kr := read_any 19 d a b c n g hk1 hk2 x0 e0 e1 e2 W0 (V.below hb0)
  obtain ⟨l, hl⟩ : ∃ l, l = rdU x0 a b c 3 := ⟨_, rfl⟩
  have hl3 : l.length ≤ 16 := by rw [hl]; have := rdU_len (x := x0) (a := a) (b := b) (c := c) (j := 3); omega
  have hin : ∀ r ∈ l, inR r R.length := by
    rw [hl]; exact rdU_in ha hb hc
  rw [← hl] at kr hbd
  have HRW := Lib.hid (show Row (fun _ => True) W0 (.slice (some ⟨gR, 0, none⟩) R.length R.length) R.length 1 (boolV R) from bool_row (bR.fr (Fr.of_below (M := fun _ => False) hb0) not_false) hn)
  have KR := Lib.hid kr
  have HIN := Lib.hid hin
  have HBD := Lib.hid hbd
  have HW0 := Lib.hid hW0
  have HB0 := Lib.hid hb0
  have HBM := Lib.hid bM
  have HBO := Lib.hid bO
  have HBR := Lib.hid bR
  have HBC := Lib.hid bC
  clear bR bC V hb0 bM bO hW0 kr hin hbd hl e0 e1 e2 ha hb hc
  go_enter Tryd.func87, Tryd.ntmps87
  go_wp2_with (first
    | (go_at_call 104; (rw [← HW0.out]); refine (KR.out).mono ?_; rintro x w1 ⟨v, rfl, hv, hb1⟩; obtain ⟨A1, c1, rfl⟩ := own_shape hv; have hf1 := Fr.of_below (M := fun _ => False) hb1; have hM := HBM.out.fr hf1 not_false; have hO := HBO.out.fr hf1 not_false; have m0 : w1.cell? ⟨w.heap.size, 0, none⟩ = some (.slice (some ⟨gR, 0, none⟩) R.length R.length) := (hM.cell 0).trans rfl; have m1 : w1.cell? ⟨w.heap.size, 1, none⟩ = some (.slice (some ⟨gC, 0, none⟩) C.length C.length) := (hM.cell 1).trans rfl; have o0 : w1.cell? ⟨w.heap.size + 1, 0, none⟩ = some (.int .i64 19) := (hO.cell 0).trans rfl; have o1 : w1.cell? ⟨w.heap.size + 1, 1, none⟩ = some (.int .i64 d) := (hO.cell 1).trans rfl; have o2 : w1.cell? ⟨w.heap.size + 1, 2, none⟩ = some (.int .i64 a) := (hO.cell 2).trans rfl; have o3 : w1.cell? ⟨w.heap.size + 1, 3, none⟩ = some (.int .i64 b) := (hO.cell 3).trans rfl; have o4 : w1.cell? ⟨w.heap.size + 1, 4, none⟩ = some (.int .i64 c) := (hO.cell 4).trans rfl; have o5 : w1.cell? ⟨w.heap.size + 1, 5, none⟩ = some (.int .i64 n) := (hO.cell 5).trans rfl; have o6 : w1.cell? ⟨w.heap.size + 1, 6, none⟩ = some (.int .i64 g) := (hO.cell 6).trans rfl; have hcc : 0 < l.length → ∃ g o, A1 = some ⟨g, o, none⟩ ∧ ∀ j (hj : j < l.length), w1.cell? ⟨g, o + j, none⟩ = some (.int .i64 l[j]) := own_list hv; have kc := mayF_any (HRW.out.fr hf1 fun _ _ => not_false) hn w.heap.size m0 A1 c1 l hl3 HIN.out hcc; rw [HBD.out] at kc; have hbw : Below w.heap.size w w1 := HB0.out.trans (hb1.mono HB0.out.size); have hRw := HBR.out.fr (Fr.of_below (M := fun _ => False) hbw) not_false; have hCw := HBC.out.fr (Fr.of_below (M := fun _ => False) hbw) not_false; have cn := boolCell hCw hm.1 hm.2; rw [hmt] at cn; have fn := hCw.frozen n.toNat; have hm0 := hm.1; have hm1 := hm.2; have HRw := Lib.hid hRw; have HCw := Lib.hid hCw; have HBW := Lib.hid hbw; have KC := Lib.hid kc; clear hv hb1 hf1 hM hO hcc kc hbw hRw hCw)
    | (go_at_call 92; refine (KC.out).mono ?_; rintro x w3 ⟨rfl, rfl⟩))
  go_quiet (fail)
  go_wp2
  go_ret
  exact ⟨rfl, drewN_below HBW.out _⟩

set_option maxRecDepth 100000 in
set_option maxHeartbeats 2000000 in
theorem spread_19_new (bR : Blk w gR 4 (boolV R).toArray) (bC : Blk w gC 4 (boolV C).toArray) (hRC : gR ≠ gC) (V : Env w) (hn : R.length ≤ 4096) (hnC : C.length ≤ 4096) (d a b c n g : Int) (hm : inR n C.length) (hmt : mb C n = false) (hk1 : 1 ≤ (19 : Int)) (hk2 : (19 : Int) ≤ 25) (ha : inR a R.length) (hb : inR b R.length) (hc : inR c R.length) (x0 : Int × Int × Int) (e0 : bits .and .i64 (usesK 19) 2 = x0.1) (e1 : bits .and .i64 (usesK 19) 4 = x0.2.1) (e2 : bits .and .i64 (usesK 19) 8 = x0.2.2) (hbd : anyB R (rdU x0 a b c 3) = true) :
    Calls Tryd.prog 87 #[.agg #[.slice (some ⟨gR, 0, none⟩) R.length R.length, .slice (some ⟨gC, 0, none⟩) C.length C.length], .agg #[.int .i64 19, .int .i64 d, .int .i64 a, .int .i64 b, .int .i64 c, .int .i64 n, .int .i64 g]] w fun x w' => x = .returned (.bool true) ∧ Blk w' gC 4 (boolV (C.set (n).toNat true)).toArray ∧ Blk w' gR 4 (boolV R).toArray ∧ Fr (fun b => b = gR ∨ b = gC) w w' := by
  obtain ⟨W0, hW0⟩ : ∃ W0, W0 = (w.alloc (.cells #[.slice (some ⟨gR, 0, none⟩) R.length R.length, .slice (some ⟨gC, 0, none⟩) C.length C.length] 122)).alloc (.cells #[.int .i64 19, .int .i64 d, .int .i64 a, .int .i64 b, .int .i64 c, .int .i64 n, .int .i64 g] 76) := ⟨_, rfl⟩
  have hb0 : Below w.heap.size w W0 := by rw [hW0]; exact ((Below.refl _ _).alloc (Nat.le_refl _) _).alloc (by simp) _
  have bM : Blk W0 w.heap.size 122 #[.slice (some ⟨gR, 0, none⟩) R.length R.length, .slice (some ⟨gC, 0, none⟩) C.length C.length] := by rw [hW0]; exact (blk_new w rfl _ _).alloc _
  have bO : Blk W0 (w.heap.size + 1) 76 #[.int .i64 19, .int .i64 d, .int .i64 a, .int .i64 b, .int .i64 c, .int .i64 n, .int .i64 g] := by rw [hW0]; exact blk_new _ (by simp) _ _
  have q0 : W0.cell? ⟨w.heap.size + 1, 0, none⟩ = some (.int .i64 19) := (bO.cell 0).trans rfl
  have q1 : W0.cell? ⟨w.heap.size + 1, 1, none⟩ = some (.int .i64 d) := (bO.cell 1).trans rfl
  have q2 : W0.cell? ⟨w.heap.size + 1, 2, none⟩ = some (.int .i64 a) := (bO.cell 2).trans rfl
  have q3 : W0.cell? ⟨w.heap.size + 1, 3, none⟩ = some (.int .i64 b) := (bO.cell 3).trans rfl
  have q4 : W0.cell? ⟨w.heap.size + 1, 4, none⟩ = some (.int .i64 c) := (bO.cell 4).trans rfl
  have q5 : W0.cell? ⟨w.heap.size + 1, 5, none⟩ = some (.int .i64 n) := (bO.cell 5).trans rfl
  have q6 : W0.cell? ⟨w.heap.size + 1, 6, none⟩ = some (.int .i64 g) := (bO.cell 6).trans rfl
  have hmf : ∀ (fn : Fn) (first cap : Array Value) (w : World), (Instr.makeFunc fn first cap).run Tryd.prog w = .ok (.func fn first cap) w := fun _ _ _ _ => rfl
  have lR : gR < w.heap.size := bR.lt
  have lC : gC < w.heap.size := bC.lt
  have kr := read_any 19 d a b c n g hk1 hk2 x0 e0 e1 e2 W0 (V.below hb0)
  obtain ⟨l, hl⟩ : ∃ l, l = rdU x0 a b c 3 := ⟨_, rfl⟩
  have hl3 : l.length ≤ 16 := by rw [hl]; have := rdU_len (x := x0) (a := a) (b := b) (c := c) (j := 3); omega
  have hin : ∀ r ∈ l, inR r R.length := by
    rw [hl]; exact rdU_in ha hb hc
  rw [← hl] at kr hbd
  have HRW := Lib.hid (show Row (fun _ => True) W0 (.slice (some ⟨gR, 0, none⟩) R.length R.length) R.length 1 (boolV R) from bool_row (bR.fr (Fr.of_below (M := fun _ => False) hb0) not_false) hn)
  have KR := Lib.hid kr
  have HIN := Lib.hid hin
  have HBD := Lib.hid hbd
  have HW0 := Lib.hid hW0
  have HB0 := Lib.hid hb0
  have HBM := Lib.hid bM
  have HBO := Lib.hid bO
  have HBR := Lib.hid bR
  have HBC := Lib.hid bC
  clear bR bC V hb0 bM bO hW0 kr hin hbd hl e0 e1 e2 ha hb hc
  go_enter Tryd.func87, Tryd.ntmps87
  go_wp2_with (first
    | (go_at_call 104; (rw [← HW0.out]); refine (KR.out).mono ?_; rintro x w1 ⟨v, rfl, hv, hb1⟩; obtain ⟨A1, c1, rfl⟩ := own_shape hv; have hf1 := Fr.of_below (M := fun _ => False) hb1; have hM := HBM.out.fr hf1 not_false; have hO := HBO.out.fr hf1 not_false; have m0 : w1.cell? ⟨w.heap.size, 0, none⟩ = some (.slice (some ⟨gR, 0, none⟩) R.length R.length) := (hM.cell 0).trans rfl; have m1 : w1.cell? ⟨w.heap.size, 1, none⟩ = some (.slice (some ⟨gC, 0, none⟩) C.length C.length) := (hM.cell 1).trans rfl; have o0 : w1.cell? ⟨w.heap.size + 1, 0, none⟩ = some (.int .i64 19) := (hO.cell 0).trans rfl; have o1 : w1.cell? ⟨w.heap.size + 1, 1, none⟩ = some (.int .i64 d) := (hO.cell 1).trans rfl; have o2 : w1.cell? ⟨w.heap.size + 1, 2, none⟩ = some (.int .i64 a) := (hO.cell 2).trans rfl; have o3 : w1.cell? ⟨w.heap.size + 1, 3, none⟩ = some (.int .i64 b) := (hO.cell 3).trans rfl; have o4 : w1.cell? ⟨w.heap.size + 1, 4, none⟩ = some (.int .i64 c) := (hO.cell 4).trans rfl; have o5 : w1.cell? ⟨w.heap.size + 1, 5, none⟩ = some (.int .i64 n) := (hO.cell 5).trans rfl; have o6 : w1.cell? ⟨w.heap.size + 1, 6, none⟩ = some (.int .i64 g) := (hO.cell 6).trans rfl; have hcc : 0 < l.length → ∃ g o, A1 = some ⟨g, o, none⟩ ∧ ∀ j (hj : j < l.length), w1.cell? ⟨g, o + j, none⟩ = some (.int .i64 l[j]) := own_list hv; have kc := mayF_any (HRW.out.fr hf1 fun _ _ => not_false) hn w.heap.size m0 A1 c1 l hl3 HIN.out hcc; rw [HBD.out] at kc; have hbw : Below w.heap.size w w1 := HB0.out.trans (hb1.mono HB0.out.size); have hRw := HBR.out.fr (Fr.of_below (M := fun _ => False) hbw) not_false; have hCw := HBC.out.fr (Fr.of_below (M := fun _ => False) hbw) not_false; have cn := boolCell hCw hm.1 hm.2; rw [hmt] at cn; have fn := hCw.frozen n.toNat; have hm0 := hm.1; have hm1 := hm.2; have HRw := Lib.hid hRw; have HCw := Lib.hid hCw; have HBW := Lib.hid hbw; have KC := Lib.hid kc; clear hv hb1 hf1 hM hO hcc kc hbw hRw hCw)
    | (go_at_call 92; refine (KC.out).mono ?_; rintro x w3 ⟨rfl, rfl⟩))
  go_quiet (fail)
  go_wp2
  go_ret
  exact ⟨rfl, boolSet (HCw.out.drewN _) (n).toNat, (HRw.out.drewN _).far (p := ⟨gC, (n).toNat, none⟩) hRC _, ((Fr.of_below HBW.out).drewN _).setCell (p := ⟨gC, (n).toNat, none⟩) (.inl (.inr rfl)) _⟩

set_option maxRecDepth 100000 in
set_option maxHeartbeats 2000000 in
theorem spread_18_no (bR : Blk w gR 4 (boolV R).toArray) (bC : Blk w gC 4 (boolV C).toArray) (hRC : gR ≠ gC) (V : Env w) (hn : R.length ≤ 4096) (hnC : C.length ≤ 4096) (d a b c n g : Int) (hm : inR n C.length) (hmt : mb C n = false) (hk1 : 1 ≤ (18 : Int)) (hk2 : (18 : Int) ≤ 25) (ha : inR a R.length) (hb : inR b R.length) (hc : inR c R.length) (bd : Bool) (x0 : Int × Int × Int) (e0 : bits .and .i64 (usesK 18) 2 = x0.1) (e1 : bits .and .i64 (usesK 18) 4 = x0.2.1) (e2 : bits .and .i64 (usesK 18) 8 = x0.2.2) (hbd : anyB R (rdU x0 a b c 3) = bd) :
    Calls Tryd.prog 87 #[.agg #[.slice (some ⟨gR, 0, none⟩) R.length R.length, .slice (some ⟨gC, 0, none⟩) C.length C.length], .agg #[.int .i64 18, .int .i64 d, .int .i64 a, .int .i64 b, .int .i64 c, .int .i64 n, .int .i64 g]] w fun x w' => x = .returned (.bool false) ∧ Below w.heap.size w w' := by
  obtain ⟨W0, hW0⟩ : ∃ W0, W0 = (w.alloc (.cells #[.slice (some ⟨gR, 0, none⟩) R.length R.length, .slice (some ⟨gC, 0, none⟩) C.length C.length] 122)).alloc (.cells #[.int .i64 18, .int .i64 d, .int .i64 a, .int .i64 b, .int .i64 c, .int .i64 n, .int .i64 g] 76) := ⟨_, rfl⟩
  have hb0 : Below w.heap.size w W0 := by rw [hW0]; exact ((Below.refl _ _).alloc (Nat.le_refl _) _).alloc (by simp) _
  have bM : Blk W0 w.heap.size 122 #[.slice (some ⟨gR, 0, none⟩) R.length R.length, .slice (some ⟨gC, 0, none⟩) C.length C.length] := by rw [hW0]; exact (blk_new w rfl _ _).alloc _
  have bO : Blk W0 (w.heap.size + 1) 76 #[.int .i64 18, .int .i64 d, .int .i64 a, .int .i64 b, .int .i64 c, .int .i64 n, .int .i64 g] := by rw [hW0]; exact blk_new _ (by simp) _ _
  have q0 : W0.cell? ⟨w.heap.size + 1, 0, none⟩ = some (.int .i64 18) := (bO.cell 0).trans rfl
  have q1 : W0.cell? ⟨w.heap.size + 1, 1, none⟩ = some (.int .i64 d) := (bO.cell 1).trans rfl
  have q2 : W0.cell? ⟨w.heap.size + 1, 2, none⟩ = some (.int .i64 a) := (bO.cell 2).trans rfl
  have q3 : W0.cell? ⟨w.heap.size + 1, 3, none⟩ = some (.int .i64 b) := (bO.cell 3).trans rfl
  have q4 : W0.cell? ⟨w.heap.size + 1, 4, none⟩ = some (.int .i64 c) := (bO.cell 4).trans rfl
  have q5 : W0.cell? ⟨w.heap.size + 1, 5, none⟩ = some (.int .i64 n) := (bO.cell 5).trans rfl
  have q6 : W0.cell? ⟨w.heap.size + 1, 6, none⟩ = some (.int .i64 g) := (bO.cell 6).trans rfl
  have hmf : ∀ (fn : Fn) (first cap : Array Value) (w : World), (Instr.makeFunc fn first cap).run Tryd.prog w = .ok (.func fn first cap) w := fun _ _ _ _ => rfl
  have lR : gR < w.heap.size := bR.lt
  have lC : gC < w.heap.size := bC.lt
  have kr := read_any 18 d a b c n g hk1 hk2 x0 e0 e1 e2 W0 (V.below hb0)
  obtain ⟨l, hl⟩ : ∃ l, l = rdU x0 a b c 3 := ⟨_, rfl⟩
  have hl3 : l.length ≤ 16 := by rw [hl]; have := rdU_len (x := x0) (a := a) (b := b) (c := c) (j := 3); omega
  have hin : ∀ r ∈ l, inR r R.length := by
    rw [hl]; exact rdU_in ha hb hc
  rw [← hl] at kr hbd
  have HRW := Lib.hid (show Row (fun _ => True) W0 (.slice (some ⟨gR, 0, none⟩) R.length R.length) R.length 1 (boolV R) from bool_row (bR.fr (Fr.of_below (M := fun _ => False) hb0) not_false) hn)
  have KR := Lib.hid kr
  have HIN := Lib.hid hin
  have HBD := Lib.hid hbd
  have HW0 := Lib.hid hW0
  have HB0 := Lib.hid hb0
  have HBM := Lib.hid bM
  have HBO := Lib.hid bO
  have HBR := Lib.hid bR
  have HBC := Lib.hid bC
  clear bR bC V hb0 bM bO hW0 kr hin hbd hl e0 e1 e2 ha hb hc
  go_enter Tryd.func87, Tryd.ntmps87
  go_wp2_with (first
    | (go_at_call 104; (rw [← HW0.out]); refine (KR.out).mono ?_; rintro x w1 ⟨v, rfl, hv, hb1⟩; obtain ⟨A1, c1, rfl⟩ := own_shape hv; have hf1 := Fr.of_below (M := fun _ => False) hb1; have hM := HBM.out.fr hf1 not_false; have hO := HBO.out.fr hf1 not_false; have m0 : w1.cell? ⟨w.heap.size, 0, none⟩ = some (.slice (some ⟨gR, 0, none⟩) R.length R.length) := (hM.cell 0).trans rfl; have m1 : w1.cell? ⟨w.heap.size, 1, none⟩ = some (.slice (some ⟨gC, 0, none⟩) C.length C.length) := (hM.cell 1).trans rfl; have o0 : w1.cell? ⟨w.heap.size + 1, 0, none⟩ = some (.int .i64 18) := (hO.cell 0).trans rfl; have o1 : w1.cell? ⟨w.heap.size + 1, 1, none⟩ = some (.int .i64 d) := (hO.cell 1).trans rfl; have o2 : w1.cell? ⟨w.heap.size + 1, 2, none⟩ = some (.int .i64 a) := (hO.cell 2).trans rfl; have o3 : w1.cell? ⟨w.heap.size + 1, 3, none⟩ = some (.int .i64 b) := (hO.cell 3).trans rfl; have o4 : w1.cell? ⟨w.heap.size + 1, 4, none⟩ = some (.int .i64 c) := (hO.cell 4).trans rfl; have o5 : w1.cell? ⟨w.heap.size + 1, 5, none⟩ = some (.int .i64 n) := (hO.cell 5).trans rfl; have o6 : w1.cell? ⟨w.heap.size + 1, 6, none⟩ = some (.int .i64 g) := (hO.cell 6).trans rfl; have hcc : 0 < l.length → ∃ g o, A1 = some ⟨g, o, none⟩ ∧ ∀ j (hj : j < l.length), w1.cell? ⟨g, o + j, none⟩ = some (.int .i64 l[j]) := own_list hv; have kc := mayF_any (HRW.out.fr hf1 fun _ _ => not_false) hn w.heap.size m0 A1 c1 l hl3 HIN.out hcc; rw [HBD.out] at kc; have hbw : Below w.heap.size w w1 := HB0.out.trans (hb1.mono HB0.out.size); have hRw := HBR.out.fr (Fr.of_below (M := fun _ => False) hbw) not_false; have hCw := HBC.out.fr (Fr.of_below (M := fun _ => False) hbw) not_false; have cn := boolCell hCw hm.1 hm.2; rw [hmt] at cn; have fn := hCw.frozen n.toNat; have hm0 := hm.1; have hm1 := hm.2; have HRw := Lib.hid hRw; have HCw := Lib.hid hCw; have HBW := Lib.hid hbw; have KC := Lib.hid kc; clear hv hb1 hf1 hM hO hcc kc hbw hRw hCw)
    | (go_at_call 92; refine (KC.out).mono ?_; rintro x w3 ⟨rfl, rfl⟩))
  go_ret
  exact ⟨rfl, HBW.out⟩

set_option maxRecDepth 100000 in
set_option maxHeartbeats 2000000 in
theorem spread_18_old (bR : Blk w gR 4 (boolV R).toArray) (bC : Blk w gC 4 (boolV C).toArray) (hRC : gR ≠ gC) (V : Env w) (hn : R.length ≤ 4096) (hnC : C.length ≤ 4096) (d a b c n g : Int) (hm : inR n C.length) (hmt : mb C n = true) (hd : inR d R.length) (hdt : mb R d = true) (hk1 : 1 ≤ (18 : Int)) (hk2 : (18 : Int) ≤ 25) (ha : inR a R.length) (hb : inR b R.length) (hc : inR c R.length) (bd : Bool) (x0 : Int × Int × Int) (e0 : bits .and .i64 (usesK 18) 2 = x0.1) (e1 : bits .and .i64 (usesK 18) 4 = x0.2.1) (e2 : bits .and .i64 (usesK 18) 8 = x0.2.2) (hbd : anyB R (rdU x0 a b c 3) = bd) :
    Calls Tryd.prog 87 #[.agg #[.slice (some ⟨gR, 0, none⟩) R.length R.length, .slice (some ⟨gC, 0, none⟩) C.length C.length], .agg #[.int .i64 18, .int .i64 d, .int .i64 a, .int .i64 b, .int .i64 c, .int .i64 n, .int .i64 g]] w fun x w' => x = .returned (.bool false) ∧ Below w.heap.size w w' := by
  obtain ⟨W0, hW0⟩ : ∃ W0, W0 = (w.alloc (.cells #[.slice (some ⟨gR, 0, none⟩) R.length R.length, .slice (some ⟨gC, 0, none⟩) C.length C.length] 122)).alloc (.cells #[.int .i64 18, .int .i64 d, .int .i64 a, .int .i64 b, .int .i64 c, .int .i64 n, .int .i64 g] 76) := ⟨_, rfl⟩
  have hb0 : Below w.heap.size w W0 := by rw [hW0]; exact ((Below.refl _ _).alloc (Nat.le_refl _) _).alloc (by simp) _
  have bM : Blk W0 w.heap.size 122 #[.slice (some ⟨gR, 0, none⟩) R.length R.length, .slice (some ⟨gC, 0, none⟩) C.length C.length] := by rw [hW0]; exact (blk_new w rfl _ _).alloc _
  have bO : Blk W0 (w.heap.size + 1) 76 #[.int .i64 18, .int .i64 d, .int .i64 a, .int .i64 b, .int .i64 c, .int .i64 n, .int .i64 g] := by rw [hW0]; exact blk_new _ (by simp) _ _
  have q0 : W0.cell? ⟨w.heap.size + 1, 0, none⟩ = some (.int .i64 18) := (bO.cell 0).trans rfl
  have q1 : W0.cell? ⟨w.heap.size + 1, 1, none⟩ = some (.int .i64 d) := (bO.cell 1).trans rfl
  have q2 : W0.cell? ⟨w.heap.size + 1, 2, none⟩ = some (.int .i64 a) := (bO.cell 2).trans rfl
  have q3 : W0.cell? ⟨w.heap.size + 1, 3, none⟩ = some (.int .i64 b) := (bO.cell 3).trans rfl
  have q4 : W0.cell? ⟨w.heap.size + 1, 4, none⟩ = some (.int .i64 c) := (bO.cell 4).trans rfl
  have q5 : W0.cell? ⟨w.heap.size + 1, 5, none⟩ = some (.int .i64 n) := (bO.cell 5).trans rfl
  have q6 : W0.cell? ⟨w.heap.size + 1, 6, none⟩ = some (.int .i64 g) := (bO.cell 6).trans rfl
  have hmf : ∀ (fn : Fn) (first cap : Array Value) (w : World), (Instr.makeFunc fn first cap).run Tryd.prog w = .ok (.func fn first cap) w := fun _ _ _ _ => rfl
  have lR : gR < w.heap.size := bR.lt
  have lC : gC < w.heap.size := bC.lt
  have kr := read_any 18 d a b c n g hk1 hk2 x0 e0 e1 e2 W0 (V.below hb0)
  obtain ⟨l, hl⟩ : ∃ l, l = rdU x0 a b c 3 := ⟨_, rfl⟩
  have hl3 : l.length ≤ 16 := by rw [hl]; have := rdU_len (x := x0) (a := a) (b := b) (c := c) (j := 3); omega
  have hin : ∀ r ∈ l, inR r R.length := by
    rw [hl]; exact rdU_in ha hb hc
  rw [← hl] at kr hbd
  have HRW := Lib.hid (show Row (fun _ => True) W0 (.slice (some ⟨gR, 0, none⟩) R.length R.length) R.length 1 (boolV R) from bool_row (bR.fr (Fr.of_below (M := fun _ => False) hb0) not_false) hn)
  have KR := Lib.hid kr
  have HIN := Lib.hid hin
  have HBD := Lib.hid hbd
  have HW0 := Lib.hid hW0
  have HB0 := Lib.hid hb0
  have HBM := Lib.hid bM
  have HBO := Lib.hid bO
  have HBR := Lib.hid bR
  have HBC := Lib.hid bC
  clear bR bC V hb0 bM bO hW0 kr hin hbd hl e0 e1 e2 ha hb hc
  go_enter Tryd.func87, Tryd.ntmps87
  go_wp2_with (first
    | (go_at_call 104; (rw [← HW0.out]); refine (KR.out).mono ?_; rintro x w1 ⟨v, rfl, hv, hb1⟩; obtain ⟨A1, c1, rfl⟩ := own_shape hv; have hf1 := Fr.of_below (M := fun _ => False) hb1; have hM := HBM.out.fr hf1 not_false; have hO := HBO.out.fr hf1 not_false; have m0 : w1.cell? ⟨w.heap.size, 0, none⟩ = some (.slice (some ⟨gR, 0, none⟩) R.length R.length) := (hM.cell 0).trans rfl; have m1 : w1.cell? ⟨w.heap.size, 1, none⟩ = some (.slice (some ⟨gC, 0, none⟩) C.length C.length) := (hM.cell 1).trans rfl; have o0 : w1.cell? ⟨w.heap.size + 1, 0, none⟩ = some (.int .i64 18) := (hO.cell 0).trans rfl; have o1 : w1.cell? ⟨w.heap.size + 1, 1, none⟩ = some (.int .i64 d) := (hO.cell 1).trans rfl; have o2 : w1.cell? ⟨w.heap.size + 1, 2, none⟩ = some (.int .i64 a) := (hO.cell 2).trans rfl; have o3 : w1.cell? ⟨w.heap.size + 1, 3, none⟩ = some (.int .i64 b) := (hO.cell 3).trans rfl; have o4 : w1.cell? ⟨w.heap.size + 1, 4, none⟩ = some (.int .i64 c) := (hO.cell 4).trans rfl; have o5 : w1.cell? ⟨w.heap.size + 1, 5, none⟩ = some (.int .i64 n) := (hO.cell 5).trans rfl; have o6 : w1.cell? ⟨w.heap.size + 1, 6, none⟩ = some (.int .i64 g) := (hO.cell 6).trans rfl; have hcc : 0 < l.length → ∃ g o, A1 = some ⟨g, o, none⟩ ∧ ∀ j (hj : j < l.length), w1.cell? ⟨g, o + j, none⟩ = some (.int .i64 l[j]) := own_list hv; have kc := mayF_any (HRW.out.fr hf1 fun _ _ => not_false) hn w.heap.size m0 A1 c1 l hl3 HIN.out hcc; rw [HBD.out] at kc; have hbw : Below w.heap.size w w1 := HB0.out.trans (hb1.mono HB0.out.size); have hRw := HBR.out.fr (Fr.of_below (M := fun _ => False) hbw) not_false; have hCw := HBC.out.fr (Fr.of_below (M := fun _ => False) hbw) not_false; have cn := boolCell hCw hm.1 hm.2; rw [hmt] at cn; have fn := hCw.frozen n.toNat; have hm0 := hm.1; have hm1 := hm.2;have cd := boolCell hRw hd.1 hd.2; rw [hdt] at cd; have fd := hRw.frozen d.toNat; have hd0 := hd.1; have hd1 := hd.2; have HRw := Lib.hid hRw; have HCw := Lib.hid hCw; have HBW := Lib.hid hbw; have KC := Lib.hid kc; clear hv hb1 hf1 hM hO hcc kc hbw hRw hCw)
    | (go_at_call 92; refine (KC.out).mono ?_; rintro x w3 ⟨rfl, rfl⟩))
  go_ret
  exact ⟨rfl, HBW.out⟩

set_option maxRecDepth 100000 in
set_option maxHeartbeats 2000000 in
theorem spread_18_new (bR : Blk w gR 4 (boolV R).toArray) (bC : Blk w gC 4 (boolV C).toArray) (hRC : gR ≠ gC) (V : Env w) (hn : R.length ≤ 4096) (hnC : C.length ≤ 4096) (d a b c n g : Int) (hm : inR n C.length) (hmt : mb C n = true) (hd : inR d R.length) (hdt : mb R d = false) (hk1 : 1 ≤ (18 : Int)) (hk2 : (18 : Int) ≤ 25) (ha : inR a R.length) (hb : inR b R.length) (hc : inR c R.length) (bd : Bool) (x0 : Int × Int × Int) (e0 : bits .and .i64 (usesK 18) 2 = x0.1) (e1 : bits .and .i64 (usesK 18) 4 = x0.2.1) (e2 : bits .and .i64 (usesK 18) 8 = x0.2.2) (hbd : anyB R (rdU x0 a b c 3) = bd) :
    Calls Tryd.prog 87 #[.agg #[.slice (some ⟨gR, 0, none⟩) R.length R.length, .slice (some ⟨gC, 0, none⟩) C.length C.length], .agg #[.int .i64 18, .int .i64 d, .int .i64 a, .int .i64 b, .int .i64 c, .int .i64 n, .int .i64 g]] w fun x w' => x = .returned (.bool true) ∧ Blk w' gR 4 (boolV (R.set (d).toNat true)).toArray ∧ Blk w' gC 4 (boolV C).toArray ∧ Fr (fun b => b = gR ∨ b = gC) w w' := by
  obtain ⟨W0, hW0⟩ : ∃ W0, W0 = (w.alloc (.cells #[.slice (some ⟨gR, 0, none⟩) R.length R.length, .slice (some ⟨gC, 0, none⟩) C.length C.length] 122)).alloc (.cells #[.int .i64 18, .int .i64 d, .int .i64 a, .int .i64 b, .int .i64 c, .int .i64 n, .int .i64 g] 76) := ⟨_, rfl⟩
  have hb0 : Below w.heap.size w W0 := by rw [hW0]; exact ((Below.refl _ _).alloc (Nat.le_refl _) _).alloc (by simp) _
  have bM : Blk W0 w.heap.size 122 #[.slice (some ⟨gR, 0, none⟩) R.length R.length, .slice (some ⟨gC, 0, none⟩) C.length C.length] := by rw [hW0]; exact (blk_new w rfl _ _).alloc _
  have bO : Blk W0 (w.heap.size + 1) 76 #[.int .i64 18, .int .i64 d, .int .i64 a, .int .i64 b, .int .i64 c, .int .i64 n, .int .i64 g] := by rw [hW0]; exact blk_new _ (by simp) _ _
  have q0 : W0.cell? ⟨w.heap.size + 1, 0, none⟩ = some (.int .i64 18) := (bO.cell 0).trans rfl
  have q1 : W0.cell? ⟨w.heap.size + 1, 1, none⟩ = some (.int .i64 d) := (bO.cell 1).trans rfl
  have q2 : W0.cell? ⟨w.heap.size + 1, 2, none⟩ = some (.int .i64 a) := (bO.cell 2).trans rfl
  have q3 : W0.cell? ⟨w.heap.size + 1, 3, none⟩ = some (.int .i64 b) := (bO.cell 3).trans rfl
  have q4 : W0.cell? ⟨w.heap.size + 1, 4, none⟩ = some (.int .i64 c) := (bO.cell 4).trans rfl
  have q5 : W0.cell? ⟨w.heap.size + 1, 5, none⟩ = some (.int .i64 n) := (bO.cell 5).trans rfl
  have q6 : W0.cell? ⟨w.heap.size + 1, 6, none⟩ = some (.int .i64 g) := (bO.cell 6).trans rfl
  have hmf : ∀ (fn : Fn) (first cap : Array Value) (w : World), (Instr.makeFunc fn first cap).run Tryd.prog w = .ok (.func fn first cap) w := fun _ _ _ _ => rfl
  have lR : gR < w.heap.size := bR.lt
  have lC : gC < w.heap.size := bC.lt
  have kr := read_any 18 d a b c n g hk1 hk2 x0 e0 e1 e2 W0 (V.below hb0)
  obtain ⟨l, hl⟩ : ∃ l, l = rdU x0 a b c 3 := ⟨_, rfl⟩
  have hl3 : l.length ≤ 16 := by rw [hl]; have := rdU_len (x := x0) (a := a) (b := b) (c := c) (j := 3); omega
  have hin : ∀ r ∈ l, inR r R.length := by
    rw [hl]; exact rdU_in ha hb hc
  rw [← hl] at kr hbd
  have HRW := Lib.hid (show Row (fun _ => True) W0 (.slice (some ⟨gR, 0, none⟩) R.length R.length) R.length 1 (boolV R) from bool_row (bR.fr (Fr.of_below (M := fun _ => False) hb0) not_false) hn)
  have KR := Lib.hid kr
  have HIN := Lib.hid hin
  have HBD := Lib.hid hbd
  have HW0 := Lib.hid hW0
  have HB0 := Lib.hid hb0
  have HBM := Lib.hid bM
  have HBO := Lib.hid bO
  have HBR := Lib.hid bR
  have HBC := Lib.hid bC
  clear bR bC V hb0 bM bO hW0 kr hin hbd hl e0 e1 e2 ha hb hc
  go_enter Tryd.func87, Tryd.ntmps87
  go_wp2_with (first
    | (go_at_call 104; (rw [← HW0.out]); refine (KR.out).mono ?_; rintro x w1 ⟨v, rfl, hv, hb1⟩; obtain ⟨A1, c1, rfl⟩ := own_shape hv; have hf1 := Fr.of_below (M := fun _ => False) hb1; have hM := HBM.out.fr hf1 not_false; have hO := HBO.out.fr hf1 not_false; have m0 : w1.cell? ⟨w.heap.size, 0, none⟩ = some (.slice (some ⟨gR, 0, none⟩) R.length R.length) := (hM.cell 0).trans rfl; have m1 : w1.cell? ⟨w.heap.size, 1, none⟩ = some (.slice (some ⟨gC, 0, none⟩) C.length C.length) := (hM.cell 1).trans rfl; have o0 : w1.cell? ⟨w.heap.size + 1, 0, none⟩ = some (.int .i64 18) := (hO.cell 0).trans rfl; have o1 : w1.cell? ⟨w.heap.size + 1, 1, none⟩ = some (.int .i64 d) := (hO.cell 1).trans rfl; have o2 : w1.cell? ⟨w.heap.size + 1, 2, none⟩ = some (.int .i64 a) := (hO.cell 2).trans rfl; have o3 : w1.cell? ⟨w.heap.size + 1, 3, none⟩ = some (.int .i64 b) := (hO.cell 3).trans rfl; have o4 : w1.cell? ⟨w.heap.size + 1, 4, none⟩ = some (.int .i64 c) := (hO.cell 4).trans rfl; have o5 : w1.cell? ⟨w.heap.size + 1, 5, none⟩ = some (.int .i64 n) := (hO.cell 5).trans rfl; have o6 : w1.cell? ⟨w.heap.size + 1, 6, none⟩ = some (.int .i64 g) := (hO.cell 6).trans rfl; have hcc : 0 < l.length → ∃ g o, A1 = some ⟨g, o, none⟩ ∧ ∀ j (hj : j < l.length), w1.cell? ⟨g, o + j, none⟩ = some (.int .i64 l[j]) := own_list hv; have kc := mayF_any (HRW.out.fr hf1 fun _ _ => not_false) hn w.heap.size m0 A1 c1 l hl3 HIN.out hcc; rw [HBD.out] at kc; have hbw : Below w.heap.size w w1 := HB0.out.trans (hb1.mono HB0.out.size); have hRw := HBR.out.fr (Fr.of_below (M := fun _ => False) hbw) not_false; have hCw := HBC.out.fr (Fr.of_below (M := fun _ => False) hbw) not_false; have cn := boolCell hCw hm.1 hm.2; rw [hmt] at cn; have fn := hCw.frozen n.toNat; have hm0 := hm.1; have hm1 := hm.2;have cd := boolCell hRw hd.1 hd.2; rw [hdt] at cd; have fd := hRw.frozen d.toNat; have hd0 := hd.1; have hd1 := hd.2; have HRw := Lib.hid hRw; have HCw := Lib.hid hCw; have HBW := Lib.hid hbw; have KC := Lib.hid kc; clear hv hb1 hf1 hM hO hcc kc hbw hRw hCw)
    | (go_at_call 92; refine (KC.out).mono ?_; rintro x w3 ⟨rfl, rfl⟩))
  go_ret
  exact ⟨rfl, boolSet (HRw.out) (d).toNat, (HCw.out).far (p := ⟨gR, (d).toNat, none⟩) hRC.symm _, ((Fr.of_below HBW.out)).setCell (p := ⟨gR, (d).toNat, none⟩) (.inl (.inl rfl)) _⟩

set_option maxRecDepth 100000 in
set_option maxHeartbeats 2000000 in
theorem spread_p_no (bR : Blk w gR 4 (boolV R).toArray) (bC : Blk w gC 4 (boolV C).toArray) (hRC : gR ≠ gC) (V : Env w) (hn : R.length ≤ 4096) (hnC : C.length ≤ 4096) (k d a b c n g : Int) (b23 : (k == 23) = false) (b24 : (k == 24) = false) (b25 : (k == 25) = false) (b19 : (k == 19) = false) (b18 : (k == 18) = false) (p1 : 2 ≤ k) (p2 : k ≤ 13) (hk1 : 1 ≤ (k : Int)) (hk2 : (k : Int) ≤ 25) (ha : inR a R.length) (hb : inR b R.length) (hc : inR c R.length) (x0 : Int × Int × Int) (e0 : bits .and .i64 (usesK k) 2 = x0.1) (e1 : bits .and .i64 (usesK k) 4 = x0.2.1) (e2 : bits .and .i64 (usesK k) 8 = x0.2.2) (hbd : anyB R (rdU x0 a b c 3) = false) :
    Calls Tryd.prog 87 #[.agg #[.slice (some ⟨gR, 0, none⟩) R.length R.length, .slice (some ⟨gC, 0, none⟩) C.length C.length], .agg #[.int .i64 k, .int .i64 d, .int .i64 a, .int .i64 b, .int .i64 c, .int .i64 n, .int .i64 g]] w fun x w' => x = .returned (.bool false) ∧ Below w.heap.size w w' := by
  obtain ⟨W0, hW0⟩ : ∃ W0, W0 = (w.alloc (.cells #[.slice (some ⟨gR, 0, none⟩) R.length R.length, .slice (some ⟨gC, 0, none⟩) C.length C.length] 122)).alloc (.cells #[.int .i64 k, .int .i64 d, .int .i64 a, .int .i64 b, .int .i64 c, .int .i64 n, .int .i64 g] 76) := ⟨_, rfl⟩
  have hb0 : Below w.heap.size w W0 := by rw [hW0]; exact ((Below.refl _ _).alloc (Nat.le_refl _) _).alloc (by simp) _
  have bM : Blk W0 w.heap.size 122 #[.slice (some ⟨gR, 0, none⟩) R.length R.length, .slice (some ⟨gC, 0, none⟩) C.length C.length] := by rw [hW0]; exact (blk_new w rfl _ _).alloc _
  have bO : Blk W0 (w.heap.size + 1) 76 #[.int .i64 k, .int .i64 d, .int .i64 a, .int .i64 b, .int .i64 c, .int .i64 n, .int .i64 g] := by rw [hW0]; exact blk_new _ (by simp) _ _
  have q0 : W0.cell? ⟨w.heap.size + 1, 0, none⟩ = some (.int .i64 k) := (bO.cell 0).trans rfl
  have q1 : W0.cell? ⟨w.heap.size + 1, 1, none⟩ = some (.int .i64 d) := (bO.cell 1).trans rfl
  have q2 : W0.cell? ⟨w.heap.size + 1, 2, none⟩ = some (.int .i64 a) := (bO.cell 2).trans rfl
  have q3 : W0.cell? ⟨w.heap.size + 1, 3, none⟩ = some (.int .i64 b) := (bO.cell 3).trans rfl
  have q4 : W0.cell? ⟨w.heap.size + 1, 4, none⟩ = some (.int .i64 c) := (bO.cell 4).trans rfl
  have q5 : W0.cell? ⟨w.heap.size + 1, 5, none⟩ = some (.int .i64 n) := (bO.cell 5).trans rfl
  have q6 : W0.cell? ⟨w.heap.size + 1, 6, none⟩ = some (.int .i64 g) := (bO.cell 6).trans rfl
  have hmf : ∀ (fn : Fn) (first cap : Array Value) (w : World), (Instr.makeFunc fn first cap).run Tryd.prog w = .ok (.func fn first cap) w := fun _ _ _ _ => rfl
  have lR : gR < w.heap.size := bR.lt
  have lC : gC < w.heap.size := bC.lt
  have kr := read_any k d a b c n g hk1 hk2 x0 e0 e1 e2 W0 (V.below hb0)
  obtain ⟨l, hl⟩ : ∃ l, l = rdU x0 a b c 3 := ⟨_, rfl⟩
  have hl3 : l.length ≤ 16 := by rw [hl]; have := rdU_len (x := x0) (a := a) (b := b) (c := c) (j := 3); omega
  have hin : ∀ r ∈ l, inR r R.length := by
    rw [hl]; exact rdU_in ha hb hc
  rw [← hl] at kr hbd
  have HRW := Lib.hid (show Row (fun _ => True) W0 (.slice (some ⟨gR, 0, none⟩) R.length R.length) R.length 1 (boolV R) from bool_row (bR.fr (Fr.of_below (M := fun _ => False) hb0) not_false) hn)
  have KR := Lib.hid kr
  have HIN := Lib.hid hin
  have HBD := Lib.hid hbd
  have HW0 := Lib.hid hW0
  have HB0 := Lib.hid hb0
  have HBM := Lib.hid bM
  have HBO := Lib.hid bO
  have HBR := Lib.hid bR
  have HBC := Lib.hid bC
  clear bR bC V hb0 bM bO hW0 kr hin hbd hl e0 e1 e2 ha hb hc
  go_enter Tryd.func87, Tryd.ntmps87
  go_wp2_with (first
    | (go_at_call 104; (rw [← HW0.out]); refine (KR.out).mono ?_; rintro x w1 ⟨v, rfl, hv, hb1⟩; obtain ⟨A1, c1, rfl⟩ := own_shape hv; have hf1 := Fr.of_below (M := fun _ => False) hb1; have hM := HBM.out.fr hf1 not_false; have hO := HBO.out.fr hf1 not_false; have m0 : w1.cell? ⟨w.heap.size, 0, none⟩ = some (.slice (some ⟨gR, 0, none⟩) R.length R.length) := (hM.cell 0).trans rfl; have m1 : w1.cell? ⟨w.heap.size, 1, none⟩ = some (.slice (some ⟨gC, 0, none⟩) C.length C.length) := (hM.cell 1).trans rfl; have o0 : w1.cell? ⟨w.heap.size + 1, 0, none⟩ = some (.int .i64 k) := (hO.cell 0).trans rfl; have o1 : w1.cell? ⟨w.heap.size + 1, 1, none⟩ = some (.int .i64 d) := (hO.cell 1).trans rfl; have o2 : w1.cell? ⟨w.heap.size + 1, 2, none⟩ = some (.int .i64 a) := (hO.cell 2).trans rfl; have o3 : w1.cell? ⟨w.heap.size + 1, 3, none⟩ = some (.int .i64 b) := (hO.cell 3).trans rfl; have o4 : w1.cell? ⟨w.heap.size + 1, 4, none⟩ = some (.int .i64 c) := (hO.cell 4).trans rfl; have o5 : w1.cell? ⟨w.heap.size + 1, 5, none⟩ = some (.int .i64 n) := (hO.cell 5).trans rfl; have o6 : w1.cell? ⟨w.heap.size + 1, 6, none⟩ = some (.int .i64 g) := (hO.cell 6).trans rfl; have hcc : 0 < l.length → ∃ g o, A1 = some ⟨g, o, none⟩ ∧ ∀ j (hj : j < l.length), w1.cell? ⟨g, o + j, none⟩ = some (.int .i64 l[j]) := own_list hv; have kc := mayF_any (HRW.out.fr hf1 fun _ _ => not_false) hn w.heap.size m0 A1 c1 l hl3 HIN.out hcc; rw [HBD.out] at kc; have hbw : Below w.heap.size w w1 := HB0.out.trans (hb1.mono HB0.out.size); have hRw := HBR.out.fr (Fr.of_below (M := fun _ => False) hbw) not_false; have hCw := HBC.out.fr (Fr.of_below (M := fun _ => False) hbw) not_false;  have HRw := Lib.hid hRw; have HCw := Lib.hid hCw; have HBW := Lib.hid hbw; have KC := Lib.hid kc; clear hv hb1 hf1 hM hO hcc kc hbw hRw hCw)
    | (go_at_call 92; refine (KC.out).mono ?_; rintro x w3 ⟨rfl, rfl⟩))
  go_ret
  exact ⟨rfl, HBW.out⟩

set_option maxRecDepth 100000 in
set_option maxHeartbeats 2000000 in
theorem spread_p_old (bR : Blk w gR 4 (boolV R).toArray) (bC : Blk w gC 4 (boolV C).toArray) (hRC : gR ≠ gC) (V : Env w) (hn : R.length ≤ 4096) (hnC : C.length ≤ 4096) (k d a b c n g : Int) (b23 : (k == 23) = false) (b24 : (k == 24) = false) (b25 : (k == 25) = false) (b19 : (k == 19) = false) (b18 : (k == 18) = false) (p1 : 2 ≤ k) (p2 : k ≤ 13) (hd : inR d R.length) (hdt : mb R d = true) (hk1 : 1 ≤ (k : Int)) (hk2 : (k : Int) ≤ 25) (ha : inR a R.length) (hb : inR b R.length) (hc : inR c R.length) (x0 : Int × Int × Int) (e0 : bits .and .i64 (usesK k) 2 = x0.1) (e1 : bits .and .i64 (usesK k) 4 = x0.2.1) (e2 : bits .and .i64 (usesK k) 8 = x0.2.2) (hbd : anyB R (rdU x0 a b c 3) = true) :
    Calls Tryd.prog 87 #[.agg #[.slice (some ⟨gR, 0, none⟩) R.length R.length, .slice (some ⟨gC, 0, none⟩) C.length C.length], .agg #[.int .i64 k, .int .i64 d, .int .i64 a, .int .i64 b, .int .i64 c, .int .i64 n, .int .i64 g]] w fun x w' => x = .returned (.bool false) ∧ Below w.heap.size w w' := by
  obtain ⟨W0, hW0⟩ : ∃ W0, W0 = (w.alloc (.cells #[.slice (some ⟨gR, 0, none⟩) R.length R.length, .slice (some ⟨gC, 0, none⟩) C.length C.length] 122)).alloc (.cells #[.int .i64 k, .int .i64 d, .int .i64 a, .int .i64 b, .int .i64 c, .int .i64 n, .int .i64 g] 76) := ⟨_, rfl⟩
  have hb0 : Below w.heap.size w W0 := by rw [hW0]; exact ((Below.refl _ _).alloc (Nat.le_refl _) _).alloc (by simp) _
  have bM : Blk W0 w.heap.size 122 #[.slice (some ⟨gR, 0, none⟩) R.length R.length, .slice (some ⟨gC, 0, none⟩) C.length C.length] := by rw [hW0]; exact (blk_new w rfl _ _).alloc _
  have bO : Blk W0 (w.heap.size + 1) 76 #[.int .i64 k, .int .i64 d, .int .i64 a, .int .i64 b, .int .i64 c, .int .i64 n, .int .i64 g] := by rw [hW0]; exact blk_new _ (by simp) _ _
  have q0 : W0.cell? ⟨w.heap.size + 1, 0, none⟩ = some (.int .i64 k) := (bO.cell 0).trans rfl
  have q1 : W0.cell? ⟨w.heap.size + 1, 1, none⟩ = some (.int .i64 d) := (bO.cell 1).trans rfl
  have q2 : W0.cell? ⟨w.heap.size + 1, 2, none⟩ = some (.int .i64 a) := (bO.cell 2).trans rfl
  have q3 : W0.cell? ⟨w.heap.size + 1, 3, none⟩ = some (.int .i64 b) := (bO.cell 3).trans rfl
  have q4 : W0.cell? ⟨w.heap.size + 1, 4, none⟩ = some (.int .i64 c) := (bO.cell 4).trans rfl
  have q5 : W0.cell? ⟨w.heap.size + 1, 5, none⟩ = some (.int .i64 n) := (bO.cell 5).trans rfl
  have q6 : W0.cell? ⟨w.heap.size + 1, 6, none⟩ = some (.int .i64 g) := (bO.cell 6).trans rfl
  have hmf : ∀ (fn : Fn) (first cap : Array Value) (w : World), (Instr.makeFunc fn first cap).run Tryd.prog w = .ok (.func fn first cap) w := fun _ _ _ _ => rfl
  have lR : gR < w.heap.size := bR.lt
  have lC : gC < w.heap.size := bC.lt
  have kr := read_any k d a b c n g hk1 hk2 x0 e0 e1 e2 W0 (V.below hb0)
  obtain ⟨l, hl⟩ : ∃ l, l = rdU x0 a b c 3 := ⟨_, rfl⟩
  have hl3 : l.length ≤ 16 := by rw [hl]; have := rdU_len (x := x0) (a := a) (b := b) (c := c) (j := 3); omega
  have hin : ∀ r ∈ l, inR r R.length := by
    rw [hl]; exact rdU_in ha hb hc
  rw [← hl] at kr hbd
  have HRW := Lib.hid (show Row (fun _ => True) W0 (.slice (some ⟨gR, 0, none⟩) R.length R.length) R.length 1 (boolV R) from bool_row (bR.fr (Fr.of_below (M := fun _ => False) hb0) not_false) hn)
  have KR := Lib.hid kr
  have HIN := Lib.hid hin
  have HBD := Lib.hid hbd
  have HW0 := Lib.hid hW0
  have HB0 := Lib.hid hb0
  have HBM := Lib.hid bM
  have HBO := Lib.hid bO
  have HBR := Lib.hid bR
  have HBC := Lib.hid bC
  clear bR bC V hb0 bM bO hW0 kr hin hbd hl e0 e1 e2 ha hb hc
  go_enter Tryd.func87, Tryd.ntmps87
  go_wp2_with (first
    | (go_at_call 104; (rw [← HW0.out]); refine (KR.out).mono ?_; rintro x w1 ⟨v, rfl, hv, hb1⟩; obtain ⟨A1, c1, rfl⟩ := own_shape hv; have hf1 := Fr.of_below (M := fun _ => False) hb1; have hM := HBM.out.fr hf1 not_false; have hO := HBO.out.fr hf1 not_false; have m0 : w1.cell? ⟨w.heap.size, 0, none⟩ = some (.slice (some ⟨gR, 0, none⟩) R.length R.length) := (hM.cell 0).trans rfl; have m1 : w1.cell? ⟨w.heap.size, 1, none⟩ = some (.slice (some ⟨gC, 0, none⟩) C.length C.length) := (hM.cell 1).trans rfl; have o0 : w1.cell? ⟨w.heap.size + 1, 0, none⟩ = some (.int .i64 k) := (hO.cell 0).trans rfl; have o1 : w1.cell? ⟨w.heap.size + 1, 1, none⟩ = some (.int .i64 d) := (hO.cell 1).trans rfl; have o2 : w1.cell? ⟨w.heap.size + 1, 2, none⟩ = some (.int .i64 a) := (hO.cell 2).trans rfl; have o3 : w1.cell? ⟨w.heap.size + 1, 3, none⟩ = some (.int .i64 b) := (hO.cell 3).trans rfl; have o4 : w1.cell? ⟨w.heap.size + 1, 4, none⟩ = some (.int .i64 c) := (hO.cell 4).trans rfl; have o5 : w1.cell? ⟨w.heap.size + 1, 5, none⟩ = some (.int .i64 n) := (hO.cell 5).trans rfl; have o6 : w1.cell? ⟨w.heap.size + 1, 6, none⟩ = some (.int .i64 g) := (hO.cell 6).trans rfl; have hcc : 0 < l.length → ∃ g o, A1 = some ⟨g, o, none⟩ ∧ ∀ j (hj : j < l.length), w1.cell? ⟨g, o + j, none⟩ = some (.int .i64 l[j]) := own_list hv; have kc := mayF_any (HRW.out.fr hf1 fun _ _ => not_false) hn w.heap.size m0 A1 c1 l hl3 HIN.out hcc; rw [HBD.out] at kc; have hbw : Below w.heap.size w w1 := HB0.out.trans (hb1.mono HB0.out.size); have hRw := HBR.out.fr (Fr.of_below (M := fun _ => False) hbw) not_false; have hCw := HBC.out.fr (Fr.of_below (M := fun _ => False) hbw) not_false; have cd := boolCell hRw hd.1 hd.2; rw [hdt] at cd; have fd := hRw.frozen d.toNat; have hd0 := hd.1; have hd1 := hd.2; have HRw := Lib.hid hRw; have HCw := Lib.hid hCw; have HBW := Lib.hid hbw; have KC := Lib.hid kc; clear hv hb1 hf1 hM hO hcc kc hbw hRw hCw)
    | (go_at_call 92; refine (KC.out).mono ?_; rintro x w3 ⟨rfl, rfl⟩))
  go_ret
  exact ⟨rfl, HBW.out⟩

set_option maxRecDepth 100000 in
set_option maxHeartbeats 2000000 in
theorem spread_p_new (bR : Blk w gR 4 (boolV R).toArray) (bC : Blk w gC 4 (boolV C).toArray) (hRC : gR ≠ gC) (V : Env w) (hn : R.length ≤ 4096) (hnC : C.length ≤ 4096) (k d a b c n g : Int) (b23 : (k == 23) = false) (b24 : (k == 24) = false) (b25 : (k == 25) = false) (b19 : (k == 19) = false) (b18 : (k == 18) = false) (p1 : 2 ≤ k) (p2 : k ≤ 13) (hd : inR d R.length) (hdt : mb R d = false) (hk1 : 1 ≤ (k : Int)) (hk2 : (k : Int) ≤ 25) (ha : inR a R.length) (hb : inR b R.length) (hc : inR c R.length) (x0 : Int × Int × Int) (e0 : bits .and .i64 (usesK k) 2 = x0.1) (e1 : bits .and .i64 (usesK k) 4 = x0.2.1) (e2 : bits .and .i64 (usesK k) 8 = x0.2.2) (hbd : anyB R (rdU x0 a b c 3) = true) :
    Calls Tryd.prog 87 #[.agg #[.slice (some ⟨gR, 0, none⟩) R.length R.length, .slice (some ⟨gC, 0, none⟩) C.length C.length], .agg #[.int .i64 k, .int .i64 d, .int .i64 a, .int .i64 b, .int .i64 c, .int .i64 n, .int .i64 g]] w fun x w' => x = .returned (.bool true) ∧ Blk w' gR 4 (boolV (R.set (d).toNat true)).toArray ∧ Blk w' gC 4 (boolV C).toArray ∧ Fr (fun b => b = gR ∨ b = gC) w w' := by
  obtain ⟨W0, hW0⟩ : ∃ W0, W0 = (w.alloc (.cells #[.slice (some ⟨gR, 0, none⟩) R.length R.length, .slice (some ⟨gC, 0, none⟩) C.length C.length] 122)).alloc (.cells #[.int .i64 k, .int .i64 d, .int .i64 a, .int .i64 b, .int .i64 c, .int .i64 n, .int .i64 g] 76) := ⟨_, rfl⟩
  have hb0 : Below w.heap.size w W0 := by rw [hW0]; exact ((Below.refl _ _).alloc (Nat.le_refl _) _).alloc (by simp) _
  have bM : Blk W0 w.heap.size 122 #[.slice (some ⟨gR, 0, none⟩) R.length R.length, .slice (some ⟨gC, 0, none⟩) C.length C.length] := by rw [hW0]; exact (blk_new w rfl _ _).alloc _
  have bO : Blk W0 (w.heap.size + 1) 76 #[.int .i64 k, .int .i64 d, .int .i64 a, .int .i64 b, .int .i64 c, .int .i64 n, .int .i64 g] := by rw [hW0]; exact blk_new _ (by simp) _ _
  have q0 : W0.cell? ⟨w.heap.size + 1, 0, none⟩ = some (.int .i64 k) := (bO.cell 0).trans rfl
  have q1 : W0.cell? ⟨w.heap.size + 1, 1, none⟩ = some (.int .i64 d) := (bO.cell 1).trans rfl
  have q2 : W0.cell? ⟨w.heap.size + 1, 2, none⟩ = some (.int .i64 a) := (bO.cell 2).trans rfl
  have q3 : W0.cell? ⟨w.heap.size + 1, 3, none⟩ = some (.int .i64 b) := (bO.cell 3).trans rfl
  have q4 : W0.cell? ⟨w.heap.size + 1, 4, none⟩ = some (.int .i64 c) := (bO.cell 4).trans rfl
  have q5 : W0.cell? ⟨w.heap.size + 1, 5, none⟩ = some (.int .i64 n) := (bO.cell 5).trans rfl
  have q6 : W0.cell? ⟨w.heap.size + 1, 6, none⟩ = some (.int .i64 g) := (bO.cell 6).trans rfl
  have hmf : ∀ (fn : Fn) (first cap : Array Value) (w : World), (Instr.makeFunc fn first cap).run Tryd.prog w = .ok (.func fn first cap) w := fun _ _ _ _ => rfl
  have lR : gR < w.heap.size := bR.lt
  have lC : gC < w.heap.size := bC.lt
  have kr := read_any k d a b c n g hk1 hk2 x0 e0 e1 e2 W0 (V.below hb0)
  obtain ⟨l, hl⟩ : ∃ l, l = rdU x0 a b c 3 := ⟨_, rfl⟩
  have hl3 : l.length ≤ 16 := by rw [hl]; have := rdU_len (x := x0) (a := a) (b := b) (c := c) (j := 3); omega
  have hin : ∀ r ∈ l, inR r R.length := by
    rw [hl]; exact rdU_in ha hb hc
  rw [← hl] at kr hbd
  have HRW := Lib.hid (show Row (fun _ => True) W0 (.slice (some ⟨gR, 0, none⟩) R.length R.length) R.length 1 (boolV R) from bool_row (bR.fr (Fr.of_below (M := fun _ => False) hb0) not_false) hn)
  have KR := Lib.hid kr
  have HIN := Lib.hid hin
  have HBD := Lib.hid hbd
  have HW0 := Lib.hid hW0
  have HB0 := Lib.hid hb0
  have HBM := Lib.hid bM
  have HBO := Lib.hid bO
  have HBR := Lib.hid bR
  have HBC := Lib.hid bC
  clear bR bC V hb0 bM bO hW0 kr hin hbd hl e0 e1 e2 ha hb hc
  go_enter Tryd.func87, Tryd.ntmps87
  go_wp2_with (first
    | (go_at_call 104; (rw [← HW0.out]); refine (KR.out).mono ?_; rintro x w1 ⟨v, rfl, hv, hb1⟩; obtain ⟨A1, c1, rfl⟩ := own_shape hv; have hf1 := Fr.of_below (M := fun _ => False) hb1; have hM := HBM.out.fr hf1 not_false; have hO := HBO.out.fr hf1 not_false; have m0 : w1.cell? ⟨w.heap.size, 0, none⟩ = some (.slice (some ⟨gR, 0, none⟩) R.length R.length) := (hM.cell 0).trans rfl; have m1 : w1.cell? ⟨w.heap.size, 1, none⟩ = some (.slice (some ⟨gC, 0, none⟩) C.length C.length) := (hM.cell 1).trans rfl; have o0 : w1.cell? ⟨w.heap.size + 1, 0, none⟩ = some (.int .i64 k) := (hO.cell 0).trans rfl; have o1 : w1.cell? ⟨w.heap.size + 1, 1, none⟩ = some (.int .i64 d) := (hO.cell 1).trans rfl; have o2 : w1.cell? ⟨w.heap.size + 1, 2, none⟩ = some (.int .i64 a) := (hO.cell 2).trans rfl; have o3 : w1.cell? ⟨w.heap.size + 1, 3, none⟩ = some (.int .i64 b) := (hO.cell 3).trans rfl; have o4 : w1.cell? ⟨w.heap.size + 1, 4, none⟩ = some (.int .i64 c) := (hO.cell 4).trans rfl; have o5 : w1.cell? ⟨w.heap.size + 1, 5, none⟩ = some (.int .i64 n) := (hO.cell 5).trans rfl; have o6 : w1.cell? ⟨w.heap.size + 1, 6, none⟩ = some (.int .i64 g) := (hO.cell 6).trans rfl; have hcc : 0 < l.length → ∃ g o, A1 = some ⟨g, o, none⟩ ∧ ∀ j (hj : j < l.length), w1.cell? ⟨g, o + j, none⟩ = some (.int .i64 l[j]) := own_list hv; have kc := mayF_any (HRW.out.fr hf1 fun _ _ => not_false) hn w.heap.size m0 A1 c1 l hl3 HIN.out hcc; rw [HBD.out] at kc; have hbw : Below w.heap.size w w1 := HB0.out.trans (hb1.mono HB0.out.size); have hRw := HBR.out.fr (Fr.of_below (M := fun _ => False) hbw) not_false; have hCw := HBC.out.fr (Fr.of_below (M := fun _ => False) hbw) not_false; have cd := boolCell hRw hd.1 hd.2; rw [hdt] at cd; have fd := hRw.frozen d.toNat; have hd0 := hd.1; have hd1 := hd.2; have HRw := Lib.hid hRw; have HCw := Lib.hid hCw; have HBW := Lib.hid hbw; have KC := Lib.hid kc; clear hv hb1 hf1 hM hO hcc kc hbw hRw hCw)
    | (go_at_call 92; refine (KC.out).mono ?_; rintro x w3 ⟨rfl, rfl⟩))
  go_ret
  exact ⟨rfl, boolSet (HRw.out) (d).toNat, (HCw.out).far (p := ⟨gR, (d).toNat, none⟩) hRC.symm _, ((Fr.of_below HBW.out)).setCell (p := ⟨gR, (d).toNat, none⟩) (.inl (.inl rfl)) _⟩

set_option maxRecDepth 100000 in
set_option maxHeartbeats 2000000 in
theorem spread_n_lo (bR : Blk w gR 4 (boolV R).toArray) (bC : Blk w gC 4 (boolV C).toArray) (hRC : gR ≠ gC) (V : Env w) (hn : R.length ≤ 4096) (hnC : C.length ≤ 4096) (k d a b c n g : Int) (b23 : (k == 23) = false) (b24 : (k == 24) = false) (b25 : (k == 25) = false) (b19 : (k == 19) = false) (b18 : (k == 18) = false) (p1 : k < 2) (hk1 : 1 ≤ (k : Int)) (hk2 : (k : Int) ≤ 25) (ha : inR a R.length) (hb : inR b R.length) (hc : inR c R.length) (bd : Bool) (x0 : Int × Int × Int) (e0 : bits .and .i64 (usesK k) 2 = x0.1) (e1 : bits .and .i64 (usesK k) 4 = x0.2.1) (e2 : bits .and .i64 (usesK k) 8 = x0.2.2) (hbd : anyB R (rdU x0 a b c 3) = bd) :
    Calls Tryd.prog 87 #[.agg #[.slice (some ⟨gR, 0, none⟩) R.length R.length, .slice (some ⟨gC, 0, none⟩) C.length C.length], .agg #[.int .i64 k, .int .i64 d, .int .i64 a, .int .i64 b, .int .i64 c, .int .i64 n, .int .i64 g]] w fun x w' => x = .returned (.bool false) ∧ Below w.heap.size w w' := by
  obtain ⟨W0, hW0⟩ : ∃ W0, W0 = (w.alloc (.cells #[.slice (some ⟨gR, 0, none⟩) R.length R.length, .slice (some ⟨gC, 0, none⟩) C.length C.length] 122)).alloc (.cells #[.int .i64 k, .int .i64 d, .int .i64 a, .int .i64 b, .int .i64 c, .int .i64 n, .int .i64 g] 76) := ⟨_, rfl⟩
  have hb0 : Below w.heap.size w W0 := by rw [hW0]; exact ((Below.refl _ _).alloc (Nat.le_refl _) _).alloc (by simp) _
  have bM : Blk W0 w.heap.size 122 #[.slice (some ⟨gR, 0, none⟩) R.length R.length, .slice (some ⟨gC, 0, none⟩) C.length C.length] := by rw [hW0]; exact (blk_new w rfl _ _).alloc _
  have bO : Blk W0 (w.heap.size + 1) 76 #[.int .i64 k, .int .i64 d, .int .i64 a, .int .i64 b, .int .i64 c, .int .i64 n, .int .i64 g] := by rw [hW0]; exact blk_new _ (by simp) _ _
  have q0 : W0.cell? ⟨w.heap.size + 1, 0, none⟩ = some (.int .i64 k) := (bO.cell 0).trans rfl
  have q1 : W0.cell? ⟨w.heap.size + 1, 1, none⟩ = some (.int .i64 d) := (bO.cell 1).trans rfl
  have q2 : W0.cell? ⟨w.heap.size + 1, 2, none⟩ = some (.int .i64 a) := (bO.cell 2).trans rfl
  have q3 : W0.cell? ⟨w.heap.size + 1, 3, none⟩ = some (.int .i64 b) := (bO.cell 3).trans rfl
  have q4 : W0.cell? ⟨w.heap.size + 1, 4, none⟩ = some (.int .i64 c) := (bO.cell 4).trans rfl
  have q5 : W0.cell? ⟨w.heap.size + 1, 5, none⟩ = some (.int .i64 n) := (bO.cell 5).trans rfl
  have q6 : W0.cell? ⟨w.heap.size + 1, 6, none⟩ = some (.int .i64 g) := (bO.cell 6).trans rfl
  have hmf : ∀ (fn : Fn) (first cap : Array Value) (w : World), (Instr.makeFunc fn first cap).run Tryd.prog w = .ok (.func fn first cap) w := fun _ _ _ _ => rfl
  have lR : gR < w.heap.size := bR.lt
  have lC : gC < w.heap.size := bC.lt
  have kr := read_any k d a b c n g hk1 hk2 x0 e0 e1 e2 W0 (V.below hb0)
  obtain ⟨l, hl⟩ : ∃ l, l = rdU x0 a b c 3 := ⟨_, rfl⟩
  have hl3 : l.length ≤ 16 := by rw [hl]; have := rdU_len (x := x0) (a := a) (b := b) (c := c) (j := 3); omega
  have hin : ∀ r ∈ l, inR r R.length := by
    rw [hl]; exact rdU_in ha hb hc
  rw [← hl] at kr hbd
  have HRW := Lib.hid (show Row (fun _ => True) W0 (.slice (some ⟨gR, 0, none⟩) R.length R.length) R.length 1 (boolV R) from bool_row (bR.fr (Fr.of_below (M := fun _ => False) hb0) not_false) hn)
  have KR := Lib.hid kr
  have HIN := Lib.hid hin
  have HBD := Lib.hid hbd
  have HW0 := Lib.hid hW0
  have HB0 := Lib.hid hb0
  have HBM := Lib.hid bM
  have HBO := Lib.hid bO
  have HBR := Lib.hid bR
  have HBC := Lib.hid bC
  clear bR bC V hb0 bM bO hW0 kr hin hbd hl e0 e1 e2 ha hb hc
  go_enter Tryd.func87, Tryd.ntmps87
  go_wp2_with (first
    | (go_at_call 104; (rw [← HW0.out]); refine (KR.out).mono ?_; rintro x w1 ⟨v, rfl, hv, hb1⟩; obtain ⟨A1, c1, rfl⟩ := own_shape hv; have hf1 := Fr.of_below (M := fun _ => False) hb1; have hM := HBM.out.fr hf1 not_false; have hO := HBO.out.fr hf1 not_false; have m0 : w1.cell? ⟨w.heap.size, 0, none⟩ = some (.slice (some ⟨gR, 0, none⟩) R.length R.length) := (hM.cell 0).trans rfl; have m1 : w1.cell? ⟨w.heap.size, 1, none⟩ = some (.slice (some ⟨gC, 0, none⟩) C.length C.length) := (hM.cell 1).trans rfl; have o0 : w1.cell? ⟨w.heap.size + 1, 0, none⟩ = some (.int .i64 k) := (hO.cell 0).trans rfl; have o1 : w1.cell? ⟨w.heap.size + 1, 1, none⟩ = some (.int .i64 d) := (hO.cell 1).trans rfl; have o2 : w1.cell? ⟨w.heap.size + 1, 2, none⟩ = some (.int .i64 a) := (hO.cell 2).trans rfl; have o3 : w1.cell? ⟨w.heap.size + 1, 3, none⟩ = some (.int .i64 b) := (hO.cell 3).trans rfl; have o4 : w1.cell? ⟨w.heap.size + 1, 4, none⟩ = some (.int .i64 c) := (hO.cell 4).trans rfl; have o5 : w1.cell? ⟨w.heap.size + 1, 5, none⟩ = some (.int .i64 n) := (hO.cell 5).trans rfl; have o6 : w1.cell? ⟨w.heap.size + 1, 6, none⟩ = some (.int .i64 g) := (hO.cell 6).trans rfl; have hcc : 0 < l.length → ∃ g o, A1 = some ⟨g, o, none⟩ ∧ ∀ j (hj : j < l.length), w1.cell? ⟨g, o + j, none⟩ = some (.int .i64 l[j]) := own_list hv; have kc := mayF_any (HRW.out.fr hf1 fun _ _ => not_false) hn w.heap.size m0 A1 c1 l hl3 HIN.out hcc; rw [HBD.out] at kc; have hbw : Below w.heap.size w w1 := HB0.out.trans (hb1.mono HB0.out.size); have hRw := HBR.out.fr (Fr.of_below (M := fun _ => False) hbw) not_false; have hCw := HBC.out.fr (Fr.of_below (M := fun _ => False) hbw) not_false;  have HRw := Lib.hid hRw; have HCw := Lib.hid hCw; have HBW := Lib.hid hbw; have KC := Lib.hid kc; clear hv hb1 hf1 hM hO hcc kc hbw hRw hCw)
    | (go_at_call 92; refine (KC.out).mono ?_; rintro x w3 ⟨rfl, rfl⟩))
  go_ret
  exact ⟨rfl, HBW.out⟩

set_option maxRecDepth 100000 in
set_option maxHeartbeats 2000000 in
theorem spread_n_hi (bR : Blk w gR 4 (boolV R).toArray) (bC : Blk w gC 4 (boolV C).toArray) (hRC : gR ≠ gC) (V : Env w) (hn : R.length ≤ 4096) (hnC : C.length ≤ 4096) (k d a b c n g : Int) (b23 : (k == 23) = false) (b24 : (k == 24) = false) (b25 : (k == 25) = false) (b19 : (k == 19) = false) (b18 : (k == 18) = false) (p1 : 2 ≤ k) (p2 : 13 < k) (hk1 : 1 ≤ (k : Int)) (hk2 : (k : Int) ≤ 25) (ha : inR a R.length) (hb : inR b R.length) (hc : inR c R.length) (bd : Bool) (x0 : Int × Int × Int) (e0 : bits .and .i64 (usesK k) 2 = x0.1) (e1 : bits .and .i64 (usesK k) 4 = x0.2.1) (e2 : bits .and .i64 (usesK k) 8 = x0.2.2) (hbd : anyB R (rdU x0 a b c 3) = bd) :
    Calls Tryd.prog 87 #[.agg #[.slice (some ⟨gR, 0, none⟩) R.length R.length, .slice (some ⟨gC, 0, none⟩) C.length C.length], .agg #[.int .i64 k, .int .i64 d, .int .i64 a, .int .i64 b, .int .i64 c, .int .i64 n, .int .i64 g]] w fun x w' => x = .returned (.bool false) ∧ Below w.heap.size w w' := by
  obtain ⟨W0, hW0⟩ : ∃ W0, W0 = (w.alloc (.cells #[.slice (some ⟨gR, 0, none⟩) R.length R.length, .slice (some ⟨gC, 0, none⟩) C.length C.length] 122)).alloc (.cells #[.int .i64 k, .int .i64 d, .int .i64 a, .int .i64 b, .int .i64 c, .int .i64 n, .int .i64 g] 76) := ⟨_, rfl⟩
  have hb0 : Below w.heap.size w W0 := by rw [hW0]; exact ((Below.refl _ _).alloc (Nat.le_refl _) _).alloc (by simp) _
  have bM : Blk W0 w.heap.size 122 #[.slice (some ⟨gR, 0, none⟩) R.length R.length, .slice (some ⟨gC, 0, none⟩) C.length C.length] := by rw [hW0]; exact (blk_new w rfl _ _).alloc _
  have bO : Blk W0 (w.heap.size + 1) 76 #[.int .i64 k, .int .i64 d, .int .i64 a, .int .i64 b, .int .i64 c, .int .i64 n, .int .i64 g] := by rw [hW0]; exact blk_new _ (by simp) _ _
  have q0 : W0.cell? ⟨w.heap.size + 1, 0, none⟩ = some (.int .i64 k) := (bO.cell 0).trans rfl
  have q1 : W0.cell? ⟨w.heap.size + 1, 1, none⟩ = some (.int .i64 d) := (bO.cell 1).trans rfl
  have q2 : W0.cell? ⟨w.heap.size + 1, 2, none⟩ = some (.int .i64 a) := (bO.cell 2).trans rfl
  have q3 : W0.cell? ⟨w.heap.size + 1, 3, none⟩ = some (.int .i64 b) := (bO.cell 3).trans rfl
  have q4 : W0.cell? ⟨w.heap.size + 1, 4, none⟩ = some (.int .i64 c) := (bO.cell 4).trans rfl
  have q5 : W0.cell? ⟨w.heap.size + 1, 5, none⟩ = some (.int .i64 n) := (bO.cell 5).trans rfl
  have q6 : W0.cell? ⟨w.heap.size + 1, 6, none⟩ = some (.int .i64 g) := (bO.cell 6).trans rfl
  have hmf : ∀ (fn : Fn) (first cap : Array Value) (w : World), (Instr.makeFunc fn first cap).run Tryd.prog w = .ok (.func fn first cap) w := fun _ _ _ _ => rfl
  have lR : gR < w.heap.size := bR.lt
  have lC : gC < w.heap.size := bC.lt
  have kr := read_any k d a b c n g hk1 hk2 x0 e0 e1 e2 W0 (V.below hb0)
  obtain ⟨l, hl⟩ : ∃ l, l = rdU x0 a b c 3 := ⟨_, rfl⟩
  have hl3 : l.length ≤ 16 := by rw [hl]; have := rdU_len (x := x0) (a := a) (b := b) (c := c) (j := 3); omega
  have hin : ∀ r ∈ l, inR r R.length := by
    rw [hl]; exact rdU_in ha hb hc
  rw [← hl] at kr hbd
  have HRW := Lib.hid (show Row (fun _ => True) W0 (.slice (some ⟨gR, 0, none⟩) R.length R.length) R.length 1 (boolV R) from bool_row (bR.fr (Fr.of_below (M := fun _ => False) hb0) not_false) hn)
  have KR := Lib.hid kr
  have HIN := Lib.hid hin
  have HBD := Lib.hid hbd
  have HW0 := Lib.hid hW0
  have HB0 := Lib.hid hb0
  have HBM := Lib.hid bM
  have HBO := Lib.hid bO
  have HBR := Lib.hid bR
  have HBC := Lib.hid bC
  clear bR bC V hb0 bM bO hW0 kr hin hbd hl e0 e1 e2 ha hb hc
  go_enter Tryd.func87, Tryd.ntmps87
  go_wp2_with (first
    | (go_at_call 104; (rw [← HW0.out]); refine (KR.out).mono ?_; rintro x w1 ⟨v, rfl, hv, hb1⟩; obtain ⟨A1, c1, rfl⟩ := own_shape hv; have hf1 := Fr.of_below (M := fun _ => False) hb1; have hM := HBM.out.fr hf1 not_false; have hO := HBO.out.fr hf1 not_false; have m0 : w1.cell? ⟨w.heap.size, 0, none⟩ = some (.slice (some ⟨gR, 0, none⟩) R.length R.length) := (hM.cell 0).trans rfl; have m1 : w1.cell? ⟨w.heap.size, 1, none⟩ = some (.slice (some ⟨gC, 0, none⟩) C.length C.length) := (hM.cell 1).trans rfl; have o0 : w1.cell? ⟨w.heap.size + 1, 0, none⟩ = some (.int .i64 k) := (hO.cell 0).trans rfl; have o1 : w1.cell? ⟨w.heap.size + 1, 1, none⟩ = some (.int .i64 d) := (hO.cell 1).trans rfl; have o2 : w1.cell? ⟨w.heap.size + 1, 2, none⟩ = some (.int .i64 a) := (hO.cell 2).trans rfl; have o3 : w1.cell? ⟨w.heap.size + 1, 3, none⟩ = some (.int .i64 b) := (hO.cell 3).trans rfl; have o4 : w1.cell? ⟨w.heap.size + 1, 4, none⟩ = some (.int .i64 c) := (hO.cell 4).trans rfl; have o5 : w1.cell? ⟨w.heap.size + 1, 5, none⟩ = some (.int .i64 n) := (hO.cell 5).trans rfl; have o6 : w1.cell? ⟨w.heap.size + 1, 6, none⟩ = some (.int .i64 g) := (hO.cell 6).trans rfl; have hcc : 0 < l.length → ∃ g o, A1 = some ⟨g, o, none⟩ ∧ ∀ j (hj : j < l.length), w1.cell? ⟨g, o + j, none⟩ = some (.int .i64 l[j]) := own_list hv; have kc := mayF_any (HRW.out.fr hf1 fun _ _ => not_false) hn w.heap.size m0 A1 c1 l hl3 HIN.out hcc; rw [HBD.out] at kc; have hbw : Below w.heap.size w w1 := HB0.out.trans (hb1.mono HB0.out.size); have hRw := HBR.out.fr (Fr.of_below (M := fun _ => False) hbw) not_false; have hCw := HBC.out.fr (Fr.of_below (M := fun _ => False) hbw) not_false;  have HRw := Lib.hid hRw; have HCw := Lib.hid hCw; have HBW := Lib.hid hbw; have KC := Lib.hid kc; clear hv hb1 hf1 hM hO hcc kc hbw hRw hCw)
    | (go_at_call 92; refine (KC.out).mono ?_; rintro x w3 ⟨rfl, rfl⟩))
  go_ret
  exact ⟨rfl, HBW.out⟩
end Go.Proofs.YtfkjkdoloamakaaDoor
