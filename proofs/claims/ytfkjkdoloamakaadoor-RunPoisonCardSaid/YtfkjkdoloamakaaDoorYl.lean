/- MayTrap of package code answers true at what may trap, whatever closed lists one takes. -/
import Derived.Test.YtfkjkdoloamakaaDoorYk
import Derived.Test.YtfkjkdoloamakaaDoorYh
import Derived.Deep.CutBlock
import Derived.Deep.DeepCutAuto
import Derived.Deep.RegionLaw
import Derived.Deep.RegionHeld3
namespace Go.Proofs.YtfkjkdoloamakaaDoor
open Go.RowKit
set_option linter.unusedVariables false
set_option linter.unusedSimpArgs false
variable {w : World} {F : Nat → Prop} {U : UnS} {Av Ab : Option Addr} {cv cb : Nat}

theorem bel2 (W : World) (o1 o2 : Obj) : Below W.heap.size W ((W.alloc o1).alloc o2).drew := (((Below.refl W.heap.size W).alloc (Nat.le_refl _) o1).alloc (by simp) o2).drew
theorem fresh1 {W w2 : World} {t : TypeId} {cs : Array Value} (hb : Below ((W.alloc (.cells cs t)).drew).heap.size ((W.alloc (.cells cs t)).drew) w2) : Blk w2 W.heap.size t cs :=
  (show Blk (W.alloc (.cells cs t)).drew W.heap.size t cs from blk_new W rfl t cs).below hb
theorem fresh2a {W w2 : World} {t t' : TypeId} {cs cs' : Array Value} (hb : Below (((W.alloc (.cells cs t)).alloc (.cells cs' t')).drew).heap.size (((W.alloc (.cells cs t)).alloc (.cells cs' t')).drew) w2) : Blk w2 W.heap.size t cs ∧ Blk w2 (W.heap.size + 1) t' cs' :=
  ⟨(show Blk ((W.alloc (.cells cs t)).alloc (.cells cs' t')).drew W.heap.size t cs from (blk_new W rfl t cs).alloc _).below hb,
   (show Blk ((W.alloc (.cells cs t)).alloc (.cells cs' t')).drew (W.heap.size + 1) t' cs' from blk_new (W.alloc (.cells cs t)) (by simp) t' cs').below hb⟩
theorem szd (W : World) : W.drew.heap.size = W.heap.size := rfl
theorem set2 {W : World} {g : Nat} {t : TypeId} {a b : Value} (h : Blk W g t #[a, b]) (v0 v1 : Value) : Blk ((W.setCell ⟨g, 0, none⟩ v0).setCell ⟨g, 1, none⟩ v1) g t #[v0, v1] := (h.set_ 0 _).set_ 1 _
theorem set6 {W : World} {g : Nat} {t : TypeId} {a0 a1 a2 a3 a4 a5 : Value} (h : Blk W g t #[a0, a1, a2, a3, a4, a5]) (v0 v1 v2 v3 v4 v5 : Value) : Blk ((((((W.setCell ⟨g, 0, none⟩ v0).setCell ⟨g, 1, none⟩ v1).setCell ⟨g, 2, none⟩ v2).setCell ⟨g, 3, none⟩ v3).setCell ⟨g, 4, none⟩ v4).setCell ⟨g, 5, none⟩ v5) g t #[v0, v1, v2, v3, v4, v5] := (((((h.set_ 0 _).set_ 1 _).set_ 2 _).set_ 3 _).set_ 4 _).set_ 5 _
theorem far2 {W : World} {g p : Nat} {t : TypeId} {cs : Array Value} (h : Blk W g t cs) (hn : g ≠ p) (v0 v1 : Value) : Blk ((W.setCell ⟨p, 0, none⟩ v0).setCell ⟨p, 1, none⟩ v1) g t cs := (h.far (p := ⟨p, 0, none⟩) hn _).far (p := ⟨p, 1, none⟩) hn _
theorem far6 {W : World} {g p : Nat} {t : TypeId} {cs : Array Value} (h : Blk W g t cs) (hn : g ≠ p) (v0 v1 v2 v3 v4 v5 : Value) : Blk ((((((W.setCell ⟨p, 0, none⟩ v0).setCell ⟨p, 1, none⟩ v1).setCell ⟨p, 2, none⟩ v2).setCell ⟨p, 3, none⟩ v3).setCell ⟨p, 4, none⟩ v4).setCell ⟨p, 5, none⟩ v5) g t cs := (((((h.far (p := ⟨p, 0, none⟩) hn _).far (p := ⟨p, 1, none⟩) hn _).far (p := ⟨p, 2, none⟩) hn _).far (p := ⟨p, 3, none⟩) hn _).far (p := ⟨p, 4, none⟩) hn _).far (p := ⟨p, 5, none⟩) hn _
theorem bset2 {B p : Nat} {W W' : World} (h : Below B W W') (hp : B ≤ p) (v0 v1 : Value) : Below B W ((W'.setCell ⟨p, 0, none⟩ v0).setCell ⟨p, 1, none⟩ v1) := (h.setCell (p := ⟨p, 0, none⟩) hp _).setCell (p := ⟨p, 1, none⟩) hp _
theorem bset6 {B p : Nat} {W W' : World} (h : Below B W W') (hp : B ≤ p) (v0 v1 v2 v3 v4 v5 : Value) : Below B W ((((((W'.setCell ⟨p, 0, none⟩ v0).setCell ⟨p, 1, none⟩ v1).setCell ⟨p, 2, none⟩ v2).setCell ⟨p, 3, none⟩ v3).setCell ⟨p, 4, none⟩ v4).setCell ⟨p, 5, none⟩ v5) := (((((h.setCell (p := ⟨p, 0, none⟩) hp _).setCell (p := ⟨p, 1, none⟩) hp _).setCell (p := ⟨p, 2, none⟩) hp _).setCell (p := ⟨p, 3, none⟩) hp _).setCell (p := ⟨p, 4, none⟩) hp _).setCell (p := ⟨p, 5, none⟩) hp _
theorem le0 (W : World) : W.heap.size ≤ W.drew.heap.size := Nat.le_refl _
theorem le1 (W : World) (o1 : Obj) : W.heap.size ≤ (W.alloc o1).drew.heap.size := by show W.heap.size ≤ (W.alloc o1).heap.size; simp
theorem le2 (W : World) (o1 o2 : Obj) : W.heap.size ≤ ((W.alloc o1).alloc o2).drew.heap.size := by show W.heap.size ≤ ((W.alloc o1).alloc o2).heap.size; simp; omega
set_option maxRecDepth 100000 in
set_option maxHeartbeats 4000000 in
theorem maytrap_any (hc : CkSays w U Av cv Ab cb 0) (hu : UnIn F w U Av cv Ab cb) (G : UnGood U) (V : Env w) (bl pc : Nat) (hbl : bl < U.blocks.length) (hpc : pc ≤ (U.blocks.getD bl dBl).ops.length)
    (hM : ∀ R C : List Bool, (R.length : Int) = U.regs → (C.length : Int) = U.spill → Closed U R C → (pc = (U.blocks.getD bl dBl).ops.length → edMay R (U.blocks.getD bl dBl).ed) ∧ (pc ≠ (U.blocks.getD bl dBl).ops.length → opMay R ((U.blocks.getD bl dBl).ops.getD pc dOp))) :
    Calls Tryd.prog 37 #[unV U Av cv Ab cb, .int .i64 bl, .int .i64 pc] w fun x w' => x = .returned (.tuple #[.bool true, .int .i64 0]) ∧ Below w.heap.size w w' := by
  obtain ⟨W0, hW0⟩ : ∃ W0, W0 = w.alloc (.cells #[.slice Av U.sizes.length cv, .int .i64 U.params, .int .i64 U.regs, .int .i64 U.code, .int .i64 U.spill, .slice Ab U.blocks.length cb] 25) := ⟨_, rfl⟩
  have hb0 : Below w.heap.size w W0 := by rw [hW0]; exact (Below.refl _ _).alloc (Nat.le_refl _) _
  have hbx : Blk W0 w.heap.size 25 #[.slice Av U.sizes.length cv, .int .i64 U.params, .int .i64 U.regs, .int .i64 U.code, .int .i64 U.spill, .slice Ab U.blocks.length cb] := by rw [hW0]; exact blk_new w rfl _ _
  have kc := hc W0 hb0
  have hnb := G.mb
  have hbI : (bl : Int) < U.blocks.length := by omega
  have HU := Lib.hid (hu.below hb0)
  have HV := Lib.hid (V.below hb0)
  unfold unV at *
  try unfold unC at *
  have KC := Lib.hid kc
  have HW0 := Lib.hid hW0
  have HB0 := Lib.hid hb0
  have HBX := Lib.hid hbx
  have HG := Lib.hid G
  have HM := Lib.hid hM
  clear kc hc hW0 hb0 hbx G hu V hM
  go_enter Tryd.func37, Tryd.ntmps37
  go_upto_region 4 with (first
    | (go_at_call 18; (rw [← HW0.out]); refine (KC.out).mono ?_; rintro x w1 ⟨rfl, hb1⟩; have hbk := HBX.out.below hb1; have q0 : w1.cell? ⟨w.heap.size, 0, none⟩ = some (.slice Av U.sizes.length cv) := (hbk.cell 0).trans rfl; have q1 : w1.cell? ⟨w.heap.size, 1, none⟩ = some (.int .i64 U.params) := (hbk.cell 1).trans rfl; have q2 : w1.cell? ⟨w.heap.size, 2, none⟩ = some (.int .i64 U.regs) := (hbk.cell 2).trans rfl; have q3 : w1.cell? ⟨w.heap.size, 3, none⟩ = some (.int .i64 U.code) := (hbk.cell 3).trans rfl; have q4 : w1.cell? ⟨w.heap.size, 4, none⟩ = some (.int .i64 U.spill) := (hbk.cell 4).trans rfl; have q5 : w1.cell? ⟨w.heap.size, 5, none⟩ = some (.slice Ab U.blocks.length cb) := (hbk.cell 5).trans rfl; have HB1 := Lib.hid hb1; have HBK := Lib.hid hbk; clear hb1 hbk))
  have hu1 := HU.out.below HB1.out
  have hV1 := HV.out.below HB1.out
  obtain ⟨vsS, hlS, hRS, hOS⟩ := hu1.hr
  obtain ⟨g2, o2, rfl, hFg, d0, d1, d2, d3, d4, d5⟩ := blk_at hlS hRS hbl
  have hOr := hOS bl hbl
  have hbe : U.blocks[bl] = U.blocks.getD bl dBl := by rw [List.getD_eq_getElem?_getD, List.getElem?_eq_getElem hbl]; rfl
  have hBm : U.blocks.getD bl dBl ∈ U.blocks := by rw [← hbe]; exact List.getElem_mem _
  have hBG := HG.out.bls _ hBm
  rw [hbe] at hOr
  have hsh : ∃ A cc, vsS.getD bl .nilFunc = .slice A (U.blocks.getD bl dBl).ops.length cc := by obtain ⟨_, A, cc, e, h, _⟩ := hOr; exact ⟨A, cc, e⟩
  obtain ⟨Ao, co, eO⟩ := hsh
  rw [eO] at d0 hOr
  have hlen := hBG.len
  have HBG := Lib.hid hBG
  obtain ⟨B, hB⟩ : ∃ B, B = U.blocks.getD bl dBl := ⟨_, rfl⟩
  rw [← hB] at d0 d1 d2 d3 d4 d5 hOr hlen HBG HM hpc
  obtain ⟨no, hno⟩ : ∃ no, no = B.ops.length := ⟨_, rfl⟩
  rw [← hno] at d0 hlen HM hpc
  have hpI : (pc : Int) < (no : Int) + 1 := by omega
  have hno1 : (no : Int) + 1 ≤ 401 := by omega
  have HU1 := Lib.hid hu1
  have HV1 := Lib.hid hV1
  have HOR := Lib.hid hOr
  have HNO := Lib.hid hno
  have hKP : ∀ W, Below w1.heap.size w1 W → Calls Tryd.prog 68 #[unV U Av cv (some ⟨g2, o2, none⟩) cb] W (MayR U W) := fun W hW => poisoned_any (hu1.below hW) HG.out (hV1.below hW)
  unfold MayR unV at hKP
  have KP := Lib.hid hKP
  clear hu1 hV1 hRS hOS hlS hFg hbe hBm hBG eO hno hOr hB KC hKP
  have lw1 : w.heap.size < w1.heap.size := HBK.out.lt
  go_upto_region 6 with (first
    | (go_at_call 70; refine (within_yes _ _ (by omega) (by omega) _).mono ?_; rintro x w3 ⟨rfl, rfl⟩))
  obtain ⟨eo, heo⟩ : ∃ x, x = o2 + bl * 6 := ⟨_, rfl⟩
  rw [← heo] at d0 d1 d2 d3 d4 d5
  have lg2 : g2 < w1.heap.size := lt_cell d0
  have nA := Nat.ne_of_lt lw1
  have nA' := nA.symm
  have nB := Nat.ne_of_lt lg2
  have nB' := nB.symm
  have nC : w.heap.size ≠ w1.heap.size + 1 := by omega
  have nC' := nC.symm
  have nD : g2 ≠ w1.heap.size + 1 := by omega
  have nD' := nD.symm
  have heo2 := heo.symm
  clear heo
  go_cut [9, 10] (fun v9 v10 wc => ∃ g9 g10 gR gC R C, v9 = .pointer (some ⟨g9, 0, none⟩) ∧ v10 = .pointer (some ⟨g10, 0, none⟩) ∧ Blk wc g9 122 #[.slice (some ⟨gR, 0, none⟩) (List.length R) (List.length R), .slice (some ⟨gC, 0, none⟩) (List.length C) (List.length C)] ∧ Blk wc g10 73 #[.slice Ao no co, .int .i64 B.ed.k, .int .i64 B.ed.a, .int .i64 B.ed.t, .int .i64 B.ed.l, .int .i64 B.ct] ∧ Blk wc gR 4 (boolV R).toArray ∧ (R.length : Int) = U.regs ∧ (C.length : Int) = U.spill ∧ Closed U R C ∧ Below w1.heap.size w1 wc)
  case first =>
    go_region_held3 (fun w' => w'.cell? ⟨w.heap.size, 0, none⟩ = some (.slice Av U.sizes.length cv) ∧ w'.cell? ⟨w.heap.size, 1, none⟩ = some (.int .i64 U.params) ∧ w'.cell? ⟨w.heap.size, 2, none⟩ = some (.int .i64 U.regs) ∧ w'.cell? ⟨w.heap.size, 3, none⟩ = some (.int .i64 U.code) ∧ w'.cell? ⟨w.heap.size, 4, none⟩ = some (.int .i64 U.spill) ∧ w'.cell? ⟨w.heap.size, 5, none⟩ = some (.slice (some ⟨g2, o2, none⟩) U.blocks.length cb) ∧ w'.cell? ⟨g2, eo, none⟩ = some (.slice Ao no co) ∧ w'.cell? ⟨g2, eo + 1, none⟩ = some (.int .i64 B.ed.k) ∧ w'.cell? ⟨g2, eo + 2, none⟩ = some (.int .i64 B.ed.a) ∧ w'.cell? ⟨g2, eo + 3, none⟩ = some (.int .i64 B.ed.t) ∧ w'.cell? ⟨g2, eo + 4, none⟩ = some (.int .i64 B.ed.l) ∧ w'.cell? ⟨g2, eo + 5, none⟩ = some (.int .i64 B.ct)) (first | with_reducible exact ⟨q0, q1, q2, q3, q4, q5, d0, d1, d2, d3, d4, d5⟩ | with_reducible exact ⟨k0, k1, k2, k3, k4, k5, e0, e1, e2, e3, e4, e5⟩ | (go_keep; done))
      (first
        | (go_at_call 68; go_loud ((refine (KP.out _ ?f).mono ?_); (case f => first | with_reducible exact (Below.refl _ _).drew | with_reducible exact ((Below.refl _ _).alloc (Nat.le_refl _) _).drew | with_reducible exact bel2 _ _ _); rintro x w2 ⟨gR, gC, R, C, rfl, bR, bC, hRC, lgR, lgC, lR, lC, hcl, hb2⟩; have HX := Lib.hid (And.intro bR (And.intro lR (And.intro lC (And.intro hcl hb2)))); have hb3 : Below w1.heap.size w1 w2 := (by first | with_reducible exact (Below.refl w1.heap.size w1).drew.trans (hb2.mono (le0 _)) | with_reducible exact (((Below.refl w1.heap.size w1).alloc (Nat.le_refl _) _).drew).trans (hb2.mono (le1 _ _)) | with_reducible exact (bel2 w1 _ _).trans (hb2.mono (le2 _ _ _))); have k0 : w2.cell? ⟨w.heap.size, 0, none⟩ = some (.slice Av U.sizes.length cv) := (hb3.cell (p := ⟨w.heap.size, 0, none⟩) lw1).trans q0; have k1 : w2.cell? ⟨w.heap.size, 1, none⟩ = some (.int .i64 U.params) := (hb3.cell (p := ⟨w.heap.size, 1, none⟩) lw1).trans q1; have k2 : w2.cell? ⟨w.heap.size, 2, none⟩ = some (.int .i64 U.regs) := (hb3.cell (p := ⟨w.heap.size, 2, none⟩) lw1).trans q2; have k3 : w2.cell? ⟨w.heap.size, 3, none⟩ = some (.int .i64 U.code) := (hb3.cell (p := ⟨w.heap.size, 3, none⟩) lw1).trans q3; have k4 : w2.cell? ⟨w.heap.size, 4, none⟩ = some (.int .i64 U.spill) := (hb3.cell (p := ⟨w.heap.size, 4, none⟩) lw1).trans q4; have k5 : w2.cell? ⟨w.heap.size, 5, none⟩ = some (.slice (some ⟨g2, o2, none⟩) U.blocks.length cb) := (hb3.cell (p := ⟨w.heap.size, 5, none⟩) lw1).trans q5; have e0 : w2.cell? ⟨g2, eo, none⟩ = some (.slice Ao no co) := (hb3.cell (p := ⟨g2, eo, none⟩) lg2).trans d0; have e1 : w2.cell? ⟨g2, eo + 1, none⟩ = some (.int .i64 B.ed.k) := (hb3.cell (p := ⟨g2, eo + 1, none⟩) lg2).trans d1; have e2 : w2.cell? ⟨g2, eo + 2, none⟩ = some (.int .i64 B.ed.a) := (hb3.cell (p := ⟨g2, eo + 2, none⟩) lg2).trans d2; have e3 : w2.cell? ⟨g2, eo + 3, none⟩ = some (.int .i64 B.ed.t) := (hb3.cell (p := ⟨g2, eo + 3, none⟩) lg2).trans d3; have e4 : w2.cell? ⟨g2, eo + 4, none⟩ = some (.int .i64 B.ed.l) := (hb3.cell (p := ⟨g2, eo + 4, none⟩) lg2).trans d4; have e5 : w2.cell? ⟨g2, eo + 5, none⟩ = some (.int .i64 B.ct) := (hb3.cell (p := ⟨g2, eo + 5, none⟩) lg2).trans d5; have ln0 : w1.heap.size ≤ w2.heap.size := hb3.size; (try (first | (with_reducible (have m1 := fresh2a (t := 122) (cs := #[.slice none 0 0, .slice none 0 0]) (t' := 73) (cs' := #[.slice none 0 0, .int .i64 0, .int .i64 0, .int .i64 0, .int .i64 0, .int .i64 0]) hb2); have m2 := m1.2; have m1 := m1.1; have z0 : w2.cell? ⟨w1.heap.size, 0, none⟩ = some (.slice none 0 0) := (m1.cell 0).trans rfl; have zf0 := m1.frozen 0; have z1 : w2.cell? ⟨w1.heap.size, 1, none⟩ = some (.slice none 0 0) := (m1.cell 1).trans rfl; have zf1 := m1.frozen 1; have lz : w1.heap.size < w2.heap.size := m1.lt; have Hz := Lib.hid m1; clear m1; have y0 : w2.cell? ⟨w1.heap.size + 1, 0, none⟩ = some (.slice none 0 0) := (m2.cell 0).trans rfl; have yf0 := m2.frozen 0; have y1 : w2.cell? ⟨w1.heap.size + 1, 1, none⟩ = some (.int .i64 0) := (m2.cell 1).trans rfl; have yf1 := m2.frozen 1; have y2 : w2.cell? ⟨w1.heap.size + 1, 2, none⟩ = some (.int .i64 0) := (m2.cell 2).trans rfl; have yf2 := m2.frozen 2; have y3 : w2.cell? ⟨w1.heap.size + 1, 3, none⟩ = some (.int .i64 0) := (m2.cell 3).trans rfl; have yf3 := m2.frozen 3; have y4 : w2.cell? ⟨w1.heap.size + 1, 4, none⟩ = some (.int .i64 0) := (m2.cell 4).trans rfl; have yf4 := m2.frozen 4; have y5 : w2.cell? ⟨w1.heap.size + 1, 5, none⟩ = some (.int .i64 0) := (m2.cell 5).trans rfl; have yf5 := m2.frozen 5; have ly : w1.heap.size + 1 < w2.heap.size := m2.lt; have Hy := Lib.hid m2; clear m2) | (with_reducible (have m1 := fresh2a (t := 73) (cs := #[.slice none 0 0, .int .i64 0, .int .i64 0, .int .i64 0, .int .i64 0, .int .i64 0]) (t' := 122) (cs' := #[.slice none 0 0, .slice none 0 0]) hb2); have m2 := m1.2; have m1 := m1.1; have z0 : w2.cell? ⟨w1.heap.size, 0, none⟩ = some (.slice none 0 0) := (m1.cell 0).trans rfl; have zf0 := m1.frozen 0; have z1 : w2.cell? ⟨w1.heap.size, 1, none⟩ = some (.int .i64 0) := (m1.cell 1).trans rfl; have zf1 := m1.frozen 1; have z2 : w2.cell? ⟨w1.heap.size, 2, none⟩ = some (.int .i64 0) := (m1.cell 2).trans rfl; have zf2 := m1.frozen 2; have z3 : w2.cell? ⟨w1.heap.size, 3, none⟩ = some (.int .i64 0) := (m1.cell 3).trans rfl; have zf3 := m1.frozen 3; have z4 : w2.cell? ⟨w1.heap.size, 4, none⟩ = some (.int .i64 0) := (m1.cell 4).trans rfl; have zf4 := m1.frozen 4; have z5 : w2.cell? ⟨w1.heap.size, 5, none⟩ = some (.int .i64 0) := (m1.cell 5).trans rfl; have zf5 := m1.frozen 5; have lz : w1.heap.size < w2.heap.size := m1.lt; have Hz := Lib.hid m1; clear m1; have y0 : w2.cell? ⟨w1.heap.size + 1, 0, none⟩ = some (.slice none 0 0) := (m2.cell 0).trans rfl; have yf0 := m2.frozen 0; have y1 : w2.cell? ⟨w1.heap.size + 1, 1, none⟩ = some (.slice none 0 0) := (m2.cell 1).trans rfl; have yf1 := m2.frozen 1; have ly : w1.heap.size + 1 < w2.heap.size := m2.lt; have Hy := Lib.hid m2; clear m2) | (with_reducible (have m1 := fresh1 (t := 122) (cs := #[.slice none 0 0, .slice none 0 0]) hb2); have z0 : w2.cell? ⟨w1.heap.size, 0, none⟩ = some (.slice none 0 0) := (m1.cell 0).trans rfl; have zf0 := m1.frozen 0; have z1 : w2.cell? ⟨w1.heap.size, 1, none⟩ = some (.slice none 0 0) := (m1.cell 1).trans rfl; have zf1 := m1.frozen 1; have lz : w1.heap.size < w2.heap.size := m1.lt; have Hz := Lib.hid m1; clear m1) | (with_reducible (have m1 := fresh1 (t := 73) (cs := #[.slice none 0 0, .int .i64 0, .int .i64 0, .int .i64 0, .int .i64 0, .int .i64 0]) hb2); have z0 : w2.cell? ⟨w1.heap.size, 0, none⟩ = some (.slice none 0 0) := (m1.cell 0).trans rfl; have zf0 := m1.frozen 0; have z1 : w2.cell? ⟨w1.heap.size, 1, none⟩ = some (.int .i64 0) := (m1.cell 1).trans rfl; have zf1 := m1.frozen 1; have z2 : w2.cell? ⟨w1.heap.size, 2, none⟩ = some (.int .i64 0) := (m1.cell 2).trans rfl; have zf2 := m1.frozen 2; have z3 : w2.cell? ⟨w1.heap.size, 3, none⟩ = some (.int .i64 0) := (m1.cell 3).trans rfl; have zf3 := m1.frozen 3; have z4 : w2.cell? ⟨w1.heap.size, 4, none⟩ = some (.int .i64 0) := (m1.cell 4).trans rfl; have zf4 := m1.frozen 4; have z5 : w2.cell? ⟨w1.heap.size, 5, none⟩ = some (.int .i64 0) := (m1.cell 5).trans rfl; have zf5 := m1.frozen 5; have lz : w1.heap.size < w2.heap.size := m1.lt; have Hz := Lib.hid m1; clear m1))); have HB3 := Lib.hid hb3; have HLG := Lib.hid lgR; clear bR bC hRC lgR lgC lR lC hcl hb2 hb3)))
    · go_wp2
      go_meet
      exact ⟨_, _, gR, gC, R, C, rfl, rfl, (blk_new w2 rfl _ _).alloc _, blk_new (w2.alloc _) (by simp) _ _, (HX.out.1.alloc _).alloc _, HX.out.2.1, HX.out.2.2.1, HX.out.2.2.2.1, (HB3.out.alloc HB3.out.size _).alloc (by have := HB3.out.size; simp; omega) _⟩
    · go_wp2
      go_meet
      exact ⟨_, _, gR, gC, R, C, rfl, rfl, blk_new (w2.alloc _) (by simp) _ _, (blk_new w2 rfl _ _).alloc _, (HX.out.1.alloc _).alloc _, HX.out.2.1, HX.out.2.2.1, HX.out.2.2.2.1, (HB3.out.alloc HB3.out.size _).alloc (by have := HB3.out.size; simp; omega) _⟩
    · go_wp2
      go_meet
      have hl := HLG.out
      rw [szd] at hl
      simp at hl
      have hn : gR ≠ w1.heap.size := by omega
      exact ⟨_, _, gR, gC, R, C, rfl, rfl, (set2 Hz.out _ _).alloc _, blk_new _ (by simp) _ _, (far2 HX.out.1 hn _ _).alloc _, HX.out.2.1, HX.out.2.2.1, HX.out.2.2.2.1, (bset2 HB3.out (Nat.le_refl _) _ _).alloc (by simp; omega) _⟩
    · go_wp2
      go_meet
      have hl := HLG.out
      rw [szd] at hl
      simp at hl
      have hn : gR ≠ w1.heap.size := by omega
      have hn1 : gR ≠ w1.heap.size + 1 := by omega
      exact ⟨_, _, gR, gC, R, C, rfl, rfl, far6 (set2 Hz.out _ _) (by omega) _ _ _ _ _ _, set6 (far2 Hy.out (by omega) _ _) _ _ _ _ _ _, far6 (far2 HX.out.1 hn _ _) hn1 _ _ _ _ _ _, HX.out.2.1, HX.out.2.2.1, HX.out.2.2.2.1, bset6 (bset2 HB3.out (Nat.le_refl _) _ _) (by omega) _ _ _ _ _ _⟩
    · go_wp2
      go_meet
      have hl := HLG.out
      rw [szd] at hl
      simp at hl
      have hn : gR ≠ w1.heap.size := by omega
      exact ⟨_, _, gR, gC, R, C, rfl, rfl, blk_new _ (by simp) _ _, (set6 Hz.out _ _ _ _ _ _).alloc _, (far6 HX.out.1 hn _ _ _ _ _ _).alloc _, HX.out.2.1, HX.out.2.2.1, HX.out.2.2.2.1, (bset6 HB3.out (Nat.le_refl _) _ _ _ _ _ _).alloc (by simp; omega) _⟩
    · go_wp2
      go_meet
      have hl := HLG.out
      rw [szd] at hl
      simp at hl
      have hn : gR ≠ w1.heap.size := by omega
      have hn1 : gR ≠ w1.heap.size + 1 := by omega
      exact ⟨_, _, gR, gC, R, C, rfl, rfl, far6 (set2 Hy.out _ _) (by omega) _ _ _ _ _ _, set6 (far2 Hz.out (by omega) _ _) _ _ _ _ _ _, far6 (far2 HX.out.1 hn1 _ _) hn _ _ _ _ _ _, HX.out.2.1, HX.out.2.2.1, HX.out.2.2.2.1, bset6 (bset2 HB3.out (by omega) _ _) (Nat.le_refl _) _ _ _ _ _ _⟩
  case rest =>
    obtain ⟨g9, g10, gR, gC, R, C, rfl, rfl, b9, b10, bR, lR, lC, hcl, hbc⟩ := hcut
    obtain ⟨hm1, hm2⟩ := HM.out R C lR lC hcl
    have hr2 := HG.out.r2
    have hn : R.length ≤ 4096 := by omega
    have hr := bool_row bR hn
    have m0 : wc.cell? ⟨g9, 0, none⟩ = some (.slice (some ⟨gR, 0, none⟩) R.length R.length) := (b9.cell 0).trans rfl
    have m1 : wc.cell? ⟨g9, 1, none⟩ = some (.slice (some ⟨gC, 0, none⟩) C.length C.length) := (b9.cell 1).trans rfl
    have c0 : wc.cell? ⟨g10, 0, none⟩ = some (.slice Ao no co) := (b10.cell 0).trans rfl
    have c1 : wc.cell? ⟨g10, 1, none⟩ = some (.int .i64 B.ed.k) := (b10.cell 1).trans rfl
    have c2 : wc.cell? ⟨g10, 2, none⟩ = some (.int .i64 B.ed.a) := (b10.cell 2).trans rfl
    have c3 : wc.cell? ⟨g10, 3, none⟩ = some (.int .i64 B.ed.t) := (b10.cell 3).trans rfl
    have c4 : wc.cell? ⟨g10, 4, none⟩ = some (.int .i64 B.ed.l) := (b10.cell 4).trans rfl
    have c5 : wc.cell? ⟨g10, 5, none⟩ = some (.int .i64 B.ct) := (b10.cell 5).trans rfl
    have hbw : Below w.heap.size w wc := (HB0.out.trans (HB1.out.mono HB0.out.size)).trans (hbc.mono (HB0.out.trans (HB1.out.mono HB0.out.size)).size)
    have HBW := Lib.hid hbw
    by_cases hpn : pc = no
    · have hpnI : (pc : Int) = no := by omega
      have KE := Lib.hid (endTrap_yes (AC := some ⟨gC, 0, none⟩) (nC := C.length) (cC := C.length) hr hn B.ed.k B.ed.a B.ed.t B.ed.l (by rw [lR]; exact HBG.out.ed.a) (hm1 hpn))
      have HZ := Lib.hid hpnI
      subst hpn
      clear hpnI hr bR b9 b10 hbc hbw hm1 hm2 hcl q0 q1 q2 q3 q4 q5 d0 d1 d2 d3 d4 d5 lR lC
      go_wp2_with (go_at_call 71; go_loud ((with_reducible refine KE.out.mono ?_); rintro x w3 ⟨rfl, hb3⟩; have HB4 := Lib.hid hb3; clear hb3))
      go_ret2
      exact ⟨rfl, HBW.out.trans (HB4.out.mono HBW.out.size)⟩
    · have hpl : pc < no := by omega
      have hpb : ((pc : Int) == (no : Int)) = false := by simp; omega
      have hpi : (pc : Int) < no := by omega
      have hor := HOR.out.fr (M := fun _ => False) (Fr.of_below hbc) fun _ _ => not_false
      have hpl' : pc < B.ops.length := by rw [← HNO.out]; exact hpl
      rw [← HNO.out] at hor
      obtain ⟨_, A', c', eA, _, _, hh⟩ := hor
      obtain ⟨g4, o4, e4A, _, lg4, hc4⟩ := hh (by omega)
      injection eA with eA1 _ eA2
      subst eA1 eA2
      subst e4A
      have hat := fun j (hj : j < 7) => opsC_at B.ops pc hpl' j hj
      have hof : OpGood U (B.ops.getD pc dOp) := HBG.out.ops _ (op_mem hpl')
      have hmo := hm2 hpn
      obtain ⟨o, hoe⟩ : ∃ o, o = B.ops.getD pc dOp := ⟨_, rfl⟩
      rw [← hoe] at hat hof hmo
      obtain ⟨k, d, a, b, c, n, g⟩ := o
      have u0 : wc.cell? ⟨g4, o4 + pc * 7, none⟩ = some (.int .i64 k) := hc4 (pc * 7) _ ((hat 0 (by omega)).trans rfl)
      have u1 : wc.cell? ⟨g4, o4 + pc * 7 + 1, none⟩ = some (.int .i64 d) := by rw [Nat.add_assoc]; exact hc4 (pc * 7 + 1) _ ((hat 1 (by omega)).trans rfl)
      have u2 : wc.cell? ⟨g4, o4 + pc * 7 + 2, none⟩ = some (.int .i64 a) := by rw [Nat.add_assoc]; exact hc4 (pc * 7 + 2) _ ((hat 2 (by omega)).trans rfl)
      have u3 : wc.cell? ⟨g4, o4 + pc * 7 + 3, none⟩ = some (.int .i64 b) := by rw [Nat.add_assoc]; exact hc4 (pc * 7 + 3) _ ((hat 3 (by omega)).trans rfl)
      have u4 : wc.cell? ⟨g4, o4 + pc * 7 + 4, none⟩ = some (.int .i64 c) := by rw [Nat.add_assoc]; exact hc4 (pc * 7 + 4) _ ((hat 4 (by omega)).trans rfl)
      have u5 : wc.cell? ⟨g4, o4 + pc * 7 + 5, none⟩ = some (.int .i64 n) := by rw [Nat.add_assoc]; exact hc4 (pc * 7 + 5) _ ((hat 5 (by omega)).trans rfl)
      have u6 : wc.cell? ⟨g4, o4 + pc * 7 + 6, none⟩ = some (.int .i64 g) := by rw [Nat.add_assoc]; exact hc4 (pc * 7 + 6) _ ((hat 6 (by omega)).trans rfl)
      have KT := Lib.hid (fun (W : World) (hW : Fr (fun _ => False) wc W) => trap_yes (w := W) (AC := some ⟨gC, 0, none⟩) (nC := C.length) (cC := C.length) (hr.fr hW fun _ _ => not_false) hn k d a b c n g (by rw [lR]; exact hof.g) (by rw [lR]; exact hof.a) hmo)
      clear hr bR b9 b10 hbc hbw hm1 hm2 hcl hc4 hh hat hof hmo hoe q0 q1 q2 q3 q4 q5 d0 d1 d2 d3 d4 d5 lR lC hpn
      go_upto_region 9 with fail
      go_region_held3 (fun w' => w'.cell? ⟨g9, 0, none⟩ = some (.slice (some ⟨gR, 0, none⟩) R.length R.length) ∧ w'.cell? ⟨g9, 1, none⟩ = some (.slice (some ⟨gC, 0, none⟩) C.length C.length) ∧ w'.cell? ⟨g10, 0, none⟩ = some (.slice (some ⟨g4, o4, none⟩) no co) ∧ w'.cell? ⟨g4, o4 + pc * 7, none⟩ = some (.int .i64 k) ∧ w'.cell? ⟨g4, o4 + pc * 7 + 1, none⟩ = some (.int .i64 d) ∧ w'.cell? ⟨g4, o4 + pc * 7 + 2, none⟩ = some (.int .i64 a) ∧ w'.cell? ⟨g4, o4 + pc * 7 + 3, none⟩ = some (.int .i64 b) ∧ w'.cell? ⟨g4, o4 + pc * 7 + 4, none⟩ = some (.int .i64 c) ∧ w'.cell? ⟨g4, o4 + pc * 7 + 5, none⟩ = some (.int .i64 n) ∧ w'.cell? ⟨g4, o4 + pc * 7 + 6, none⟩ = some (.int .i64 g)) (first | with_reducible exact ⟨m0, m1, c0, u0, u1, u2, u3, u4, u5, u6⟩ | with_reducible exact ⟨vm0, vm1, vc0, vu0, vu1, vu2, vu3, vu4, vu5, vu6⟩ | (go_keep; done))
        (first | (go_at_call 72; go_loud ((with_reducible refine (KT.out _ ?f).mono ?_); (case f => first | with_reducible exact (Fr.refl _ _).drew | with_reducible exact (Fr.refl _ _).drewN _ | with_reducible exact Fr.refl _ _); rintro x w3 ⟨rfl, hb3⟩; have hf3 : Fr (fun _ => False) wc w3 := (by first | with_reducible exact (Fr.refl _ _).drew.then_ (Fr.of_below hb3) | with_reducible exact ((Fr.refl _ _).drewN _).then_ (Fr.of_below hb3) | with_reducible exact Fr.of_below hb3); have vm0 := hf3.cell m0 not_false; have vm1 := hf3.cell m1 not_false; have vc0 := hf3.cell c0 not_false; have vu0 := hf3.cell u0 not_false; have vu1 := hf3.cell u1 not_false; have vu2 := hf3.cell u2 not_false; have vu3 := hf3.cell u3 not_false; have vu4 := hf3.cell u4 not_false; have vu5 := hf3.cell u5 not_false; have vu6 := hf3.cell u6 not_false; have HF3 := Lib.hid hf3; clear hb3 hf3)))
      go_wp2
      go_ret2
      exact ⟨rfl, HBW.out.trans (HF3.out.below (fun _ h => h.elim) HBW.out.size)⟩
end Go.Proofs.YtfkjkdoloamakaaDoor
