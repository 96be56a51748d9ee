/- Poisons of the specification, walked: closed lists. -/
import Derived.Test.YtfkjkdoloamakaaDoorYn
import Derived.StillTailTactics
namespace Go.Proofs.YtfkjkdoloamakaaDoor
open Go.RowKit
set_option linter.unusedVariables false
set_option linter.unusedSimpArgs false
variable {w : World} {F : Nat → Prop} {U : UnS} {Av Ab : Option Addr} {cv cb : Nat}

theorem boolKeep {W : World} {g : Nat} {l : List Bool} (h : Blk W g 4 (boolV l).toArray) {n : Int} (hn : inR n l.length) {v : Bool} (hv : mb l n = v) : Blk (W.setCell ⟨g, n.toNat, none⟩ (.bool v)) g 4 (boolV l).toArray := by
  have hb := h.set_ n.toNat (.bool v)
  have hi : n.toNat < l.length := by have := hn.1; have := hn.2; omega
  simp only [List.setIfInBounds_toArray] at hb
  have e : (boolV l).set n.toNat (.bool v) = boolV l := by
    rw [← hv]
    unfold mb boolV
    rw [getD_of_lt2 false hi]
    apply List.ext_getElem
    · simp
    · intro j h1 h2
      rw [List.getElem_set]
      split
      · rename_i e; subst e; simp
      · rfl
  rw [e] at hb
  exact hb

set_option maxRecDepth 100000 in
set_option maxHeartbeats 8000000 in
theorem rpoisons_any (hu : UnIn F w U Av cv Ab cb) (G : UnGood U) :
    Calls Tryd.prog 69 #[unV U Av cv Ab cb] w (PoisP U w) := by
  obtain ⟨W0, hW0⟩ : ∃ W0, W0 = w.alloc (.cells #[.slice Av U.sizes.length cv, .int .i64 U.params, .int .i64 U.regs, .int .i64 U.code, .int .i64 U.spill, .slice Ab U.blocks.length cb] 25) := ⟨_, rfl⟩
  have hb0 : Below w.heap.size w W0 := by rw [hW0]; exact (Below.refl _ _).alloc (Nat.le_refl _) _
  have hq : Blk W0 w.heap.size 25 #[.slice Av U.sizes.length cv, .int .i64 U.params, .int .i64 U.regs, .int .i64 U.code, .int .i64 U.spill, .slice Ab U.blocks.length cb] := by rw [hW0]; exact blk_new w rfl _ _
  have hz0 : W0.heap.size = w.heap.size + 1 := by rw [hW0]; simp
  obtain ⟨W2, hW2⟩ : ∃ W2, W2 = (W0.alloc (.cells (boolV (List.replicate U.regs.toNat false)).toArray 4)).alloc (.cells (boolV (List.replicate U.spill.toNat false)).toArray 4) := ⟨_, rfl⟩
  have bR : Blk W2 (w.heap.size + 1) 4 (boolV (List.replicate U.regs.toNat false)).toArray := by rw [hW2, ← hz0]; exact (blk_new W0 rfl _ _).alloc _
  have bC : Blk W2 (w.heap.size + 1 + 1) 4 (boolV (List.replicate U.spill.toNat false)).toArray := by rw [hW2]; exact blk_new _ (by simp [hz0]) _ _
  have hb2 : Below W0.heap.size W0 W2 := by rw [hW2]; exact ((Below.refl _ _).alloc (Nat.le_refl _) _).alloc (by simp) _
  have bU2 := hq.below hb2
  have hu2 := (hu.below hb0).below hb2
  have hbw : Below w.heap.size w W2 := hb0.trans (hb2.mono hb0.size)
  have hF2 : ∀ g, F g → ¬ (g = w.heap.size + 1 ∨ g = w.heap.size + 1 + 1) := fun g hg e => by
    have h1 := hu.hF g hg
    omega
  have q0 : W0.cell? ⟨w.heap.size, 0, none⟩ = some (.slice Av U.sizes.length cv) := (hq.cell 0).trans rfl
  have q1 : W0.cell? ⟨w.heap.size, 1, none⟩ = some (.int .i64 U.params) := (hq.cell 1).trans rfl
  have q2 : W0.cell? ⟨w.heap.size, 2, none⟩ = some (.int .i64 U.regs) := (hq.cell 2).trans rfl
  have q3 : W0.cell? ⟨w.heap.size, 3, none⟩ = some (.int .i64 U.code) := (hq.cell 3).trans rfl
  have q4 : W0.cell? ⟨w.heap.size, 4, none⟩ = some (.int .i64 U.spill) := (hq.cell 4).trans rfl
  have q5 : W0.cell? ⟨w.heap.size, 5, none⟩ = some (.slice Ab U.blocks.length cb) := (hq.cell 5).trans rfl
  have hr1 := G.r1
  have hr2 := G.r2
  have hsp := G.sp
  have hsp2 := G.sp2
  have hnb := G.mb
  have mk1 := fun W => make_bool U.regs (by omega) (by omega) W
  have mk2 := fun W => make_bool U.spill (by omega) (by omega) W
  have lw0 : w.heap.size < W0.heap.size := hq.lt
  have nw0 : w.heap.size ≠ W0.heap.size := Nat.ne_of_lt lw0
  have nw1 := nw0.symm
  have mx : W0.alloc (.cells (boolV (List.replicate U.regs.toNat false)).toArray 4) = W0.alloc (.cells (boolV (List.replicate U.regs.toNat false)).toArray 4) := rfl
  unfold unV at *
  have HZ0 := Lib.hid hz0
  have HW0 := Lib.hid hW0
  have HW2 := Lib.hid hW2
  have HG := Lib.hid G
  have HBR := Lib.hid bR
  have HBC := Lib.hid bC
  have HBU := Lib.hid bU2
  have HU2 := Lib.hid hu2
  have HBW := Lib.hid hbw
  have HF2 := Lib.hid hF2
  clear mx hz0 hW0 hW2 hb0 hq bR bC hb2 bU2 hu hu2 hbw hF2 G
  go_enter Tryd.func69, Tryd.ntmps69
  go_upto_region 1 with fail
  rw [← HW0.out]
  go_upto_region 3 with fail
  rw [← HW2.out]
  clear nw0 nw1 lw0
  try rw [HZ0.out]
  obtain ⟨gR, hgR⟩ : ∃ x, x = w.heap.size + 1 := ⟨_, rfl⟩
  obtain ⟨gC, hgC⟩ : ∃ x, x = w.heap.size + 1 + 1 := ⟨_, rfl⟩
  have HGR := Lib.hid hgR
  have HGC := Lib.hid hgC
  have hRC : gR ≠ gC := by omega
  have nUR : w.heap.size ≠ gR := by omega
  have nUC : w.heap.size ≠ gC := by omega
  have HNE := Lib.hid hRC
  have HBR : Hid (Blk W2 gR 4 (boolV (List.replicate U.regs.toNat false)).toArray) := Lib.hid (by rw [hgR]; exact HBR.out)
  have HBC : Hid (Blk W2 gC 4 (boolV (List.replicate U.spill.toNat false)).toArray) := Lib.hid (by rw [hgC]; exact HBC.out)
  have HF2 : Hid (∀ g, F g → ¬ (g = gR ∨ g = gC)) := Lib.hid (by rw [hgR, hgC]; exact HF2.out)
  try simp only [World.size_alloc]
  try rw [HZ0.out]
  rw [← hgC, ← hgR]
  clear hgR hgC mk1 mk2 q0 q1 q2 q3 q4 q5
  obtain ⟨nR, hnR⟩ : ∃ n, n = U.regs.toNat := ⟨_, rfl⟩
  obtain ⟨nC, hnC⟩ : ∃ n, n = U.spill.toNat := ⟨_, rfl⟩
  rw [← hnR] at HBR ⊢
  rw [← hnC] at HBC ⊢
  have HNR : Hid ((nR : Int) = U.regs ∧ nR ≤ 4096) := Lib.hid (by omega)
  have HNC : Hid ((nC : Int) = U.spill ∧ nC ≤ 4096) := Lib.hid (by omega)
  clear hnR hnC hr1 hr2 hsp hsp2
  go_wp2
  go_loopw [5] (fun v5 wz => ∃ (t : Bool) (R C : List Bool), v5 = .bool t ∧ Blk wz gR 4 (boolV R).toArray ∧ Blk wz gC 4 (boolV C).toArray ∧ R.length = nR ∧ C.length = nC ∧ (t = false → Closed U R C) ∧ Fr (fun b => b = gR ∨ b = gC) W2 wz) (fun v5 wz => 2 * (cntW wz gR + cntW wz gC) + boolN v5)
  case atStart => exact ⟨true, _, _, rfl, HBR.out, HBC.out, by simp, by simp, (fun e => by cases e), Fr.refl _ _⟩
  case round =>
    obtain ⟨t, R0, C0, rfl, bR0, bC0, lR0, lC0, hcl0, hfz0⟩ := hrel
    rename World => wz
    cases t
    · have hcl := hcl0 rfl
      have HX := Lib.hid (And.intro bR0 (And.intro bC0 (And.intro lR0 (And.intro lC0 (And.intro hcl hfz0)))))
      clear bR0 bC0 hcl0 hfz0 hcl lC0
      go_wp2
      go_ret
      obtain ⟨h1, h2, h3, h4, h5, h6⟩ := HX.out
      refine ⟨gR, R0, C0, by rw [h3]; rfl, h1, by rw [HGR.out]; omega, by rw [h3]; exact HNR.out.1, by rw [h4]; exact HNC.out.1, h5, HBW.out.trans (h6.below ?_ HBW.out.size)⟩
      rintro b (rfl | rfl)
      · rw [HGR.out]; omega
      · rw [HGC.out]; omega
    · have eR := cntW_eq bR0
      have eC := cntW_eq bC0
      have HE := Lib.hid (And.intro eR eC)
      have HBR0 := Lib.hid bR0
      have HBC0 := Lib.hid bC0
      have HL0 := Lib.hid (And.intro lR0 lC0)
      have HFZ0 := Lib.hid hfz0
      clear hcl0 eR eC bR0 bC0 lR0 lC0 hfz0
      go_wp2
      go_loopw [5, 6] (fun v5 v6 wy => ∃ (i : Nat) (t : Bool) (R C : List Bool), i ≤ U.blocks.length ∧ v5 = .bool t ∧ v6 = .int .i64 i ∧ Blk wy gR 4 (boolV R).toArray ∧ Blk wy gC 4 (boolV C).toArray ∧ PasS U R0 C0 R C t i 0 ∧ Fr (fun b => b = gR ∨ b = gC) W2 wy) (fun _ v6 _ => U.blocks.length - (intOf v6).toNat)
      case atStart => exact ⟨0, false, _, _, Nat.zero_le _, rfl, rfl, HBR0.out, HBC0.out, PasS.start, HFZ0.out⟩
      case round =>
        obtain ⟨i, t, R, C, hi, rfl, rfl, hbR, hbC, hPs, hfz⟩ := hrel
        rename World => wy
        have bU := HBU.out.fr hfz (fun e => e.elim nUR nUC)
        have q0 : wy.cell? ⟨w.heap.size, 0, none⟩ = some (.slice Av U.sizes.length cv) := (bU.cell 0).trans rfl
        have q1 : wy.cell? ⟨w.heap.size, 1, none⟩ = some (.int .i64 U.params) := (bU.cell 1).trans rfl
        have q2 : wy.cell? ⟨w.heap.size, 2, none⟩ = some (.int .i64 U.regs) := (bU.cell 2).trans rfl
        have q3 : wy.cell? ⟨w.heap.size, 3, none⟩ = some (.int .i64 U.code) := (bU.cell 3).trans rfl
        have q4 : wy.cell? ⟨w.heap.size, 4, none⟩ = some (.int .i64 U.spill) := (bU.cell 4).trans rfl
        have q5 : wy.cell? ⟨w.heap.size, 5, none⟩ = some (.slice Ab U.blocks.length cb) := (bU.cell 5).trans rfl
        by_cases hlt : i < U.blocks.length
        · have hiI : (i : Int) < U.blocks.length := by omega
          have lwy : w.heap.size < wy.heap.size := bU.lt
          obtain ⟨no, hno⟩ : ∃ no, no = (U.blocks.getD i dBl).ops.length := ⟨_, rfl⟩
          have HNO := Lib.hid hno
          have HX := Lib.hid (And.intro hbR (And.intro hbC (And.intro hPs hfz)))
          clear bU hfz hbR hbC hPs hno
          go_wp2
          go_loopw [5, 7] (fun v5 v7 wv => ∃ (m : Nat) (t : Bool) (R C : List Bool), m ≤ no ∧ v5 = .bool t ∧ v7 = .int .i64 m ∧ Blk wv gR 4 (boolV R).toArray ∧ Blk wv gC 4 (boolV C).toArray ∧ PasS U R0 C0 R C t i m ∧ Fr (fun b => b = gR ∨ b = gC) W2 wv) (fun _ v7 _ => no - (intOf v7).toNat)
          case atStart => exact ⟨0, _, _, _, Nat.zero_le _, rfl, rfl, HX.out.1, HX.out.2.1, HX.out.2.2.1, HX.out.2.2.2⟩
          case round =>
            clear HX
            obtain ⟨m, t, R, C, hm, rfl, rfl, hbR, hbC, hPs, hfv⟩ := hrel
            rename World => wv
            have bU := HBU.out.fr hfv (fun e => e.elim nUR nUC)
            clear q0 q1 q2 q3 q4 q5
            have q0 : wv.cell? ⟨w.heap.size, 0, none⟩ = some (.slice Av U.sizes.length cv) := (bU.cell 0).trans rfl
            have q1 : wv.cell? ⟨w.heap.size, 1, none⟩ = some (.int .i64 U.params) := (bU.cell 1).trans rfl
            have q2 : wv.cell? ⟨w.heap.size, 2, none⟩ = some (.int .i64 U.regs) := (bU.cell 2).trans rfl
            have q3 : wv.cell? ⟨w.heap.size, 3, none⟩ = some (.int .i64 U.code) := (bU.cell 3).trans rfl
            have q4 : wv.cell? ⟨w.heap.size, 4, none⟩ = some (.int .i64 U.spill) := (bU.cell 4).trans rfl
            have q5 : wv.cell? ⟨w.heap.size, 5, none⟩ = some (.slice Ab U.blocks.length cb) := (bU.cell 5).trans rfl
            have hur := HU2.out.fr hfv HF2.out
            obtain ⟨vsS, hlS, hRS, hOS⟩ := hur.hr
            obtain ⟨g2, o2, rfl, hFg, d0, d1, d2, d3, d4, d5⟩ := blk_at hlS hRS hlt
            have hOr := hOS i hlt
            have hbe : U.blocks[i] = U.blocks.getD i dBl := by rw [List.getD_eq_getElem?_getD, List.getElem?_eq_getElem hlt]; rfl
            rw [hbe] at hOr
            have hsh : ∃ A cc, vsS.getD i .nilFunc = .slice A (U.blocks.getD i dBl).ops.length cc := by obtain ⟨_, A, cc, e, h, _⟩ := hOr; exact ⟨A, cc, e⟩
            obtain ⟨Ao, co, eO⟩ := hsh
            rw [eO, ← HNO.out] at d0 hOr
            have lwv : w.heap.size < wv.heap.size := bU.lt
            have lg2 : g2 < wv.heap.size := lt_cell d0
            have hBm : U.blocks.getD i dBl ∈ U.blocks := by rw [← hbe]; exact List.getElem_mem _
            have hlen : no ≤ 400 := by rw [HNO.out]; exact (HG.out.bls _ hBm).len
            have HX := Lib.hid (And.intro hbR (And.intro hbC (And.intro hPs hfv)))
            by_cases hmt : m < no
            · have hmI : (m : Int) < no := by omega
              have hmt' : m < (U.blocks.getD i dBl).ops.length := by rw [← HNO.out]; exact hmt
              obtain ⟨_, A', c', eA, _, _, hh⟩ := hOr
              obtain ⟨g4, o4, e4A, _, lg4, hc4⟩ := hh (by omega)
              injection eA with eA1 _ eA2
              subst eA1 eA2
              subst e4A
              have hat := fun j (hj : j < 7) => opsC_at (U.blocks.getD i dBl).ops m hmt' j hj
              have hof : OpGood U ((U.blocks.getD i dBl).ops.getD m dOp) := (HG.out.bls _ hBm).ops _ (op_mem hmt')
              obtain ⟨o, hoe⟩ : ∃ o, o = (U.blocks.getD i dBl).ops.getD m dOp := ⟨_, rfl⟩
              rw [← hoe] at hat hof
              have HOE := Lib.hid hoe
              obtain ⟨k, d, a, b, c, n, g⟩ := o
              have u0 : wv.cell? ⟨g4, o4 + m * 7, none⟩ = some (.int .i64 k) := hc4 (m * 7) _ ((hat 0 (by omega)).trans rfl)
              have u1 : wv.cell? ⟨g4, o4 + m * 7 + 1, none⟩ = some (.int .i64 d) := by rw [Nat.add_assoc]; exact hc4 (m * 7 + 1) _ ((hat 1 (by omega)).trans rfl)
              have u2 : wv.cell? ⟨g4, o4 + m * 7 + 2, none⟩ = some (.int .i64 a) := by rw [Nat.add_assoc]; exact hc4 (m * 7 + 2) _ ((hat 2 (by omega)).trans rfl)
              have u3 : wv.cell? ⟨g4, o4 + m * 7 + 3, none⟩ = some (.int .i64 b) := by rw [Nat.add_assoc]; exact hc4 (m * 7 + 3) _ ((hat 3 (by omega)).trans rfl)
              have u4 : wv.cell? ⟨g4, o4 + m * 7 + 4, none⟩ = some (.int .i64 c) := by rw [Nat.add_assoc]; exact hc4 (m * 7 + 4) _ ((hat 4 (by omega)).trans rfl)
              have u5 : wv.cell? ⟨g4, o4 + m * 7 + 5, none⟩ = some (.int .i64 n) := by rw [Nat.add_assoc]; exact hc4 (m * 7 + 5) _ ((hat 5 (by omega)).trans rfl)
              have u6 : wv.cell? ⟨g4, o4 + m * 7 + 6, none⟩ = some (.int .i64 g) := by rw [Nat.add_assoc]; exact hc4 (m * 7 + 6) _ ((hat 6 (by omega)).trans rfl)
              have lR : R.length = nR := hPs.lR.trans HL0.out.1
              have lC : C.length = nC := hPs.lC.trans HL0.out.2
              have HLC : Hid ((C.length : Int) = U.spill) := Lib.hid (by rw [lC]; exact HNC.out.1)
              have HLR : Hid ((R.length : Int) = U.regs) := Lib.hid (by rw [lR]; exact HNR.out.1)
              have hdR : inR d R.length := by rw [HLR.out]; exact hof.d
              have hd0 : 0 ≤ d := hdR.1
              have hd1 : d < nR := by rw [← lR]; exact hdR.2
              obtain ⟨W4, hW4⟩ : ∃ W4, W4 = wv.alloc (.cells #[.int .i64 k, .int .i64 d, .int .i64 a, .int .i64 b, .int .i64 c, .int .i64 n, .int .i64 g] 76) := ⟨_, rfl⟩
              have hb4 : Below wv.heap.size wv W4 := by rw [hW4]; exact (Below.refl _ _).alloc (Nat.le_refl _) _
              have hbo : Blk W4 wv.heap.size 76 #[.int .i64 k, .int .i64 d, .int .i64 a, .int .i64 b, .int .i64 c, .int .i64 n, .int .i64 g] := by rw [hW4]; exact blk_new _ rfl _ _
              have HW4 := Lib.hid hW4
              have HB4 := Lib.hid hb4
              have HBO := Lib.hid hbo
              have HOF := Lib.hid hof
              have HDR := Lib.hid hdR
              have lRv : gR < wv.heap.size := hbR.lt
              have lCv : gC < wv.heap.size := hbC.lt
              have hL3 : (opL k a b c).length ≤ 3 := opL_len k a b c
              have HIL := Lib.hid (opL_in3 (k := k) (a := a) (b := b) (c := c) (K := U.regs) hof.a hof.b hof.c)
              have HLL := Lib.hid (And.intro lR lC)
              obtain ⟨l, hl⟩ : ∃ l, l = opL k a b c := ⟨_, rfl⟩
              have HCO := Lib.hid (fun W => roperands_any k d a b c n g W)
              rw [← hl] at HIL HCO hL3
              have HLE := Lib.hid hl
              clear hl hW4 hb4 hbo hof hdR hc4 hh hat hoe hbR hbC hPs hfv bU hur hRS hOS hlS hFg eO hbe hBm lR lC
              go_wp2_with (go_at_call 81; (rw [← HW4.out]); (with_reducible refine (HCO.out _).mono ?_); rintro x w5 ⟨A5, c5, rfl, hrow, hb5⟩; have HROW := Lib.hid hrow; have HB5 := Lib.hid hb5; clear hrow hb5)
              obtain ⟨hbR, hbC, hPs, hfv⟩ := HX.out
              have hb45 : Below wv.heap.size wv w5 := HB4.out.trans (HB5.out.mono HB4.out.size)
              have HBRV := Lib.hid (hbR.below hb45)
              have HBCV := Lib.hid (hbC.below hb45)
              have HPS := Lib.hid hPs
              have HFV := Lib.hid (hfv.then_ (Fr.of_below (M := (fun b => b = gR ∨ b = gC)) hb45))
              have hbo := HBO.out.below HB5.out
              have p0 : w5.cell? ⟨wv.heap.size, 0, none⟩ = some (.int .i64 k) := (hbo.cell 0).trans rfl
              have p1 : w5.cell? ⟨wv.heap.size, 1, none⟩ = some (.int .i64 d) := (hbo.cell 1).trans rfl
              have p2 : w5.cell? ⟨wv.heap.size, 2, none⟩ = some (.int .i64 a) := (hbo.cell 2).trans rfl
              have p3 : w5.cell? ⟨wv.heap.size, 3, none⟩ = some (.int .i64 b) := (hbo.cell 3).trans rfl
              have p4 : w5.cell? ⟨wv.heap.size, 4, none⟩ = some (.int .i64 c) := (hbo.cell 4).trans rfl
              have p5 : w5.cell? ⟨wv.heap.size, 5, none⟩ = some (.int .i64 n) := (hbo.cell 5).trans rfl
              have p6 : w5.cell? ⟨wv.heap.size, 6, none⟩ = some (.int .i64 g) := (hbo.cell 6).trans rfl
              have lo5 : wv.heap.size < w5.heap.size := hbo.lt
              have noR : wv.heap.size ≠ gR := by omega
              have noR' := noR.symm
              have noC : wv.heap.size ≠ gC := by omega
              have noC' := noC.symm
              have lR5 : gR < w5.heap.size := HBRV.out.lt
              have lC5 : gC < w5.heap.size := HBCV.out.lt
              clear HX hbR hbC hPs hfv hb45 hbo HB4 HB5 HBO HW4 HCO lRv lCv lg2 lg4 lwv d0 d1 d2 d3 d4 d5 u0 u1 u2 u3 u4 u5 u6 q0 q1 q2 q3 q4 q5
              go_loop [9, 11] (fun v9 v11 => ∃ j : Nat, j ≤ l.length ∧ v9 = .bool (anyB R (l.take j)) ∧ v11 = .int .i64 j) (fun _ v11 => l.length - (intOf v11).toNat)
              case atStart => exact ⟨0, Nat.zero_le _, rfl, rfl⟩
              case round =>
                obtain ⟨j, hj, rfl, rfl⟩ := hrel
                by_cases hjl : j < l.length
                · obtain ⟨g6, o6, e6, _, lg6, hc6⟩ := rowi_at HROW.out hjl
                  subst e6
                  have hck : w5.cell? ⟨g6, o6 + j, none⟩ = some (.int .i64 l[j]) := hc6 _ (by simp [numV, hjl])
                  have hat := anyB_take (R := R) hjl
                  have hin := HIL.out _ (List.getElem_mem hjl)
                  obtain ⟨r, hr⟩ : ∃ r, r = l[j] := ⟨_, rfl⟩
                  rw [← hr] at hck hat hin
                  have hin' : inR r R.length := by rw [HLR.out]; exact hin
                  have r0 : 0 ≤ r := hin'.1
                  have r1 : r < nR := by rw [← HLL.out.1]; exact hin'.2
                  have cr := boolCell HBRV.out hin'.1 hin'.2
                  obtain ⟨bt, hbt⟩ : ∃ x, x = mb R r := ⟨_, rfl⟩
                  obtain ⟨bj, hbj⟩ : ∃ x, x = anyB R (l.take j) := ⟨_, rfl⟩
                  rw [← hbt] at cr hat
                  rw [← hbj] at hat ⊢
                  have HAT := Lib.hid hat
                  clear hat hin hin' hr hc6 hbt hbj
                  cases bj
                  · go_wp2
                    go_round
                    case rel => exact ⟨j + 1, by omega, by rw [HAT.out, Bool.false_or], by go_num⟩
                    case measure => simp [intOf]; omega
                  · go_wp2
                    go_round
                    case rel => exact ⟨j + 1, by omega, by rw [HAT.out, Bool.true_or], by go_num⟩
                    case measure => simp [intOf]; omega
                · obtain rfl : j = l.length := by omega
                  obtain ⟨bd, hbd⟩ : ∃ x, x = anyB R (l.take l.length) := ⟨_, rfl⟩
                  rw [← hbd]
                  rw [List.take_length, HLE.out] at hbd
                  have HBD := Lib.hid hbd
                  have hof := HOF.out
                  have hdR := HDR.out
                  clear hbd
                  go_upto_region 20 with fail
                  by_cases k23 : 23 ≤ k
                  · rcases Bool.eq_false_or_eq_true (mb R d) with hdt | hdt
                    · have HK := Lib.hid (HPS.out.skip (by rw [← HOE.out]; exact closed_late k23 hdt))
                      have cd := boolCell HBRV.out hd0 (show d < (R.length : Int) by rw [HLL.out.1]; exact hd1)
                      rw [hdt] at cd
                      have fd := HBRV.out.frozen d.toNat
                      clear hof hdR
                      go_wp2
                      go_roundw
                      case rel => exact ⟨m + 1, _, _, _, by omega, rfl, by go_num, HBRV.out, HBCV.out, HK.out, HFV.out⟩
                      case measure => simp [intOf]; omega
                    · have HK := Lib.hid (HPS.out.setR hdR hdt i (m + 1))
                      have cd := boolCell HBRV.out hd0 (show d < (R.length : Int) by rw [HLL.out.1]; exact hd1)
                      rw [hdt] at cd
                      have fd := HBRV.out.frozen d.toNat
                      clear hof hdR
                      go_wp2
                      go_roundw
                      case rel => exact ⟨m + 1, _, _, _, by omega, rfl, by go_num, boolSet (HBRV.out) d.toNat, (HBCV.out).far (p := ⟨gR, d.toNat, none⟩) HNE.out.symm _, HK.out, (HFV.out).setCell (M := (fun b => b = gR ∨ b = gC)) (p := ⟨gR, d.toNat, none⟩) (.inl (.inl rfl)) _⟩
                      case measure => simp [intOf]; omega
                  by_cases kp : 2 ≤ k ∧ k ≤ 13
                  · obtain ⟨kp1, kp2⟩ := kp
                    cases bd
                    · have HK := Lib.hid (HPS.out.skip (by rw [← HOE.out]; exact closed_plain kp1 kp2 fun h => absurd h (opL_reads HBD.out.symm)))
                      clear hof hdR
                      go_wp2
                      go_roundw
                      case rel => exact ⟨m + 1, _, _, _, by omega, rfl, by go_num, HBRV.out, HBCV.out, HK.out, HFV.out⟩
                      case measure => simp [intOf]; omega
                    · rcases Bool.eq_false_or_eq_true (mb R d) with hdt | hdt
                      · have HK := Lib.hid (HPS.out.skip (by rw [← HOE.out]; exact closed_plain kp1 kp2 fun _ => hdt))
                        have cd := boolCell HBRV.out hd0 (show d < (R.length : Int) by rw [HLL.out.1]; exact hd1)
                        rw [hdt] at cd
                        have fd := HBRV.out.frozen d.toNat
                        clear hof hdR
                        go_wp2
                        go_roundw
                        case rel => exact ⟨m + 1, _, _, _, by omega, rfl, by go_num, HBRV.out, HBCV.out, HK.out, HFV.out⟩
                        case measure => simp [intOf]; omega
                      · have HK := Lib.hid (HPS.out.setR hdR hdt i (m + 1))
                        have cd := boolCell HBRV.out hd0 (show d < (R.length : Int) by rw [HLL.out.1]; exact hd1)
                        rw [hdt] at cd
                        have fd := HBRV.out.frozen d.toNat
                        clear hof hdR
                        go_wp2
                        go_roundw
                        case rel => exact ⟨m + 1, _, _, _, by omega, rfl, by go_num, boolSet (HBRV.out) d.toNat, (HBCV.out).far (p := ⟨gR, d.toNat, none⟩) HNE.out.symm _, HK.out, (HFV.out).setCell (M := (fun b => b = gR ∨ b = gC)) (p := ⟨gR, d.toNat, none⟩) (.inl (.inl rfl)) _⟩
                        case measure => simp [intOf]; omega
                  have kq : k < 2 ∨ 13 < k := by omega
                  have kqb : (decide (2 ≤ k) && decide (k ≤ 13)) = false := by rw [← Bool.decide_and]; exact decide_eq_false kp
                  by_cases k19 : k = 19
                  · obtain ⟨n0, n1⟩ : inR n U.spill := hof.cell (.inr k19)
                    have hn3 : inR n C.length := ⟨n0, by rw [HLC.out]; exact n1⟩
                    have n1' : n < nC := by rw [← HLL.out.2]; exact hn3.2
                    have HIN := Lib.hid hn3
                    have cn := boolCell HBCV.out hn3.1 hn3.2
                    have fn := HBCV.out.frozen n.toNat
                    have b19 : (k == 19) = true := by rw [k19]; rfl
                    have kq1 : 13 < k := by omega
                    have kq2 : 2 ≤ k := by omega
                    clear kp kq kqb
                    have no : bd = false → ¬ mb R a = true := fun e h => opL_reads (d := d) (n := n) (g := g) (HBD.out.symm.trans e) (.inl ⟨by show hasA k = true; rw [k19]; rfl, h⟩)
                    obtain ⟨vn, hvn⟩ : ∃ v, v = mb C n := ⟨_, rfl⟩
                    rw [← hvn] at cn
                    cases bd
                    · cases vn
                      · cases t
                        · have HK := Lib.hid (HPS.out.skip (by rw [← HOE.out, k19]; exact closed_keep fun h => absurd h (no rfl)))
                          have HCN := Lib.hid hvn.symm
                          clear no k19 hvn
                          clear hof hdR
                          go_wp2
                          go_still_tail 12, (by kernel_rfl)
                          change wpList _ _ _ _ _ w5.drew
                          go_wp2
                          go_roundw
                          case rel => exact ⟨m + 1, _, _, _, by omega, rfl, by go_num, (HBRV.out.drew).far (p := ⟨gC, n.toNat, none⟩) HNE.out _, boolKeep (HBCV.out.drew) HIN.out HCN.out, HK.out, (HFV.out.drew).setCell (M := (fun b => b = gR ∨ b = gC)) (p := ⟨gC, n.toNat, none⟩) (.inl (.inr rfl)) _⟩
                          case measure => simp [intOf]; omega
                        · have HK := Lib.hid (HPS.out.skip (by rw [← HOE.out, k19]; exact closed_keep fun h => absurd h (no rfl)))
                          have HCN := Lib.hid hvn.symm
                          clear no k19 hvn
                          clear hof hdR
                          go_wp2
                          go_still_tail 12, (by kernel_rfl)
                          change wpList _ _ _ _ _ w5.drew
                          go_wp2
                          go_roundw
                          case rel => exact ⟨m + 1, _, _, _, by omega, rfl, by go_num, (HBRV.out.drew).far (p := ⟨gC, n.toNat, none⟩) HNE.out _, boolKeep (HBCV.out.drew) HIN.out HCN.out, HK.out, (HFV.out.drew).setCell (M := (fun b => b = gR ∨ b = gC)) (p := ⟨gC, n.toNat, none⟩) (.inl (.inr rfl)) _⟩
                          case measure => simp [intOf]; omega
                      · cases t
                        · have HK := Lib.hid (HPS.out.skip (by rw [← HOE.out, k19]; exact closed_keep fun h => absurd h (no rfl)))
                          have HCN := Lib.hid hvn.symm
                          clear no k19 hvn
                          clear hof hdR
                          go_wp2
                          go_still_tail 12, (by kernel_rfl)
                          change wpList _ _ _ _ _ w5.drew
                          go_wp2
                          go_roundw
                          case rel => exact ⟨m + 1, _, _, _, by omega, rfl, by go_num, (HBRV.out.drew).far (p := ⟨gC, n.toNat, none⟩) HNE.out _, boolKeep (HBCV.out.drew) HIN.out HCN.out, HK.out, (HFV.out.drew).setCell (M := (fun b => b = gR ∨ b = gC)) (p := ⟨gC, n.toNat, none⟩) (.inl (.inr rfl)) _⟩
                          case measure => simp [intOf]; omega
                        · have HK := Lib.hid (HPS.out.skip (by rw [← HOE.out, k19]; exact closed_keep fun h => absurd h (no rfl)))
                          have HCN := Lib.hid hvn.symm
                          clear no k19 hvn
                          clear hof hdR
                          go_wp2
                          go_still_tail 12, (by kernel_rfl)
                          change wpList _ _ _ _ _ w5.drew
                          go_wp2
                          go_roundw
                          case rel => exact ⟨m + 1, _, _, _, by omega, rfl, by go_num, (HBRV.out.drew).far (p := ⟨gC, n.toNat, none⟩) HNE.out _, boolKeep (HBCV.out.drew) HIN.out HCN.out, HK.out, (HFV.out.drew).setCell (M := (fun b => b = gR ∨ b = gC)) (p := ⟨gC, n.toNat, none⟩) (.inl (.inr rfl)) _⟩
                          case measure => simp [intOf]; omega
                    · cases vn
                      · cases t
                        · have HK := Lib.hid (HPS.out.setC hn3 hvn.symm i (m + 1))
                          clear no k19 hvn
                          clear hof hdR
                          go_wp2
                          go_still_tail 12, (by kernel_rfl)
                          change wpList _ _ _ _ _ w5.drew
                          go_wp2
                          go_roundw
                          case rel => exact ⟨m + 1, _, _, _, by omega, rfl, by go_num, (HBRV.out.drew).far (p := ⟨gC, n.toNat, none⟩) HNE.out _, boolSet (HBCV.out.drew) n.toNat, HK.out, (HFV.out.drew).setCell (M := (fun b => b = gR ∨ b = gC)) (p := ⟨gC, n.toNat, none⟩) (.inl (.inr rfl)) _⟩
                          case measure => simp [intOf]; omega
                        · have HK := Lib.hid (HPS.out.setC hn3 hvn.symm i (m + 1))
                          clear no k19 hvn
                          clear hof hdR
                          go_wp2
                          go_still_tail 12, (by kernel_rfl)
                          change wpList _ _ _ _ _ w5.drew
                          go_wp2
                          go_roundw
                          case rel => exact ⟨m + 1, _, _, _, by omega, rfl, by go_num, (HBRV.out.drew).far (p := ⟨gC, n.toNat, none⟩) HNE.out _, boolSet (HBCV.out.drew) n.toNat, HK.out, (HFV.out.drew).setCell (M := (fun b => b = gR ∨ b = gC)) (p := ⟨gC, n.toNat, none⟩) (.inl (.inr rfl)) _⟩
                          case measure => simp [intOf]; omega
                      · cases t
                        · have HK := Lib.hid (HPS.out.skip (by rw [← HOE.out, k19]; exact closed_keep fun _ => hvn.symm))
                          have HCN := Lib.hid hvn.symm
                          clear no k19 hvn
                          clear hof hdR
                          go_wp2
                          go_still_tail 12, (by kernel_rfl)
                          change wpList _ _ _ _ _ w5.drew
                          go_wp2
                          go_roundw
                          case rel => exact ⟨m + 1, _, _, _, by omega, rfl, by go_num, (HBRV.out.drew).far (p := ⟨gC, n.toNat, none⟩) HNE.out _, boolKeep (HBCV.out.drew) HIN.out HCN.out, HK.out, (HFV.out.drew).setCell (M := (fun b => b = gR ∨ b = gC)) (p := ⟨gC, n.toNat, none⟩) (.inl (.inr rfl)) _⟩
                          case measure => simp [intOf]; omega
                        · have HK := Lib.hid (HPS.out.skip (by rw [← HOE.out, k19]; exact closed_keep fun _ => hvn.symm))
                          have HCN := Lib.hid hvn.symm
                          clear no k19 hvn
                          clear hof hdR
                          go_wp2
                          go_still_tail 12, (by kernel_rfl)
                          change wpList _ _ _ _ _ w5.drew
                          go_wp2
                          go_roundw
                          case rel => exact ⟨m + 1, _, _, _, by omega, rfl, by go_num, (HBRV.out.drew).far (p := ⟨gC, n.toNat, none⟩) HNE.out _, boolKeep (HBCV.out.drew) HIN.out HCN.out, HK.out, (HFV.out.drew).setCell (M := (fun b => b = gR ∨ b = gC)) (p := ⟨gC, n.toNat, none⟩) (.inl (.inr rfl)) _⟩
                          case measure => simp [intOf]; omega
                  have b19 : (k == 19) = false := by simpa using k19
                  by_cases k18 : k = 18
                  · obtain ⟨n0, n1⟩ : inR n U.spill := hof.cell (.inl k18)
                    have hn3 : inR n C.length := ⟨n0, by rw [HLC.out]; exact n1⟩
                    have n1' : n < nC := by rw [← HLL.out.2]; exact hn3.2
                    have cn := boolCell HBCV.out hn3.1 hn3.2
                    have b18 : (k == 18) = true := by rw [k18]; rfl
                    have kq1 : 13 < k := by omega
                    have kq2 : 2 ≤ k := by omega
                    clear kp kq kqb
                    obtain ⟨vn, hvn⟩ : ∃ v, v = mb C n := ⟨_, rfl⟩
                    rw [← hvn] at cn
                    cases vn
                    · have HK := Lib.hid (HPS.out.skip (by rw [← HOE.out, k18]; exact closed_fetch fun h => by rw [← hvn] at h; cases h))
                      clear k18 k19 hvn
                      clear hof hdR
                      go_wp2
                      go_roundw
                      case rel => exact ⟨m + 1, _, _, _, by omega, rfl, by go_num, HBRV.out, HBCV.out, HK.out, HFV.out⟩
                      case measure => simp [intOf]; omega
                    · rcases Bool.eq_false_or_eq_true (mb R d) with hdt | hdt
                      · have HK := Lib.hid (HPS.out.skip (by rw [← HOE.out]; exact (k18 ▸ closed_fetch fun _ => hdt)))
                        have cd := boolCell HBRV.out hd0 (show d < (R.length : Int) by rw [HLL.out.1]; exact hd1)
                        rw [hdt] at cd
                        have fd := HBRV.out.frozen d.toNat
                        clear hof hdR k18 k19 hvn
                        go_wp2
                        go_roundw
                        case rel => exact ⟨m + 1, _, _, _, by omega, rfl, by go_num, HBRV.out, HBCV.out, HK.out, HFV.out⟩
                        case measure => simp [intOf]; omega
                      · have HK := Lib.hid (HPS.out.setR hdR hdt i (m + 1))
                        have cd := boolCell HBRV.out hd0 (show d < (R.length : Int) by rw [HLL.out.1]; exact hd1)
                        rw [hdt] at cd
                        have fd := HBRV.out.frozen d.toNat
                        clear hof hdR k18 k19 hvn
                        go_wp2
                        go_roundw
                        case rel => exact ⟨m + 1, _, _, _, by omega, rfl, by go_num, boolSet (HBRV.out) d.toNat, (HBCV.out).far (p := ⟨gR, d.toNat, none⟩) HNE.out.symm _, HK.out, (HFV.out).setCell (M := (fun b => b = gR ∨ b = gC)) (p := ⟨gR, d.toNat, none⟩) (.inl (.inl rfl)) _⟩
                        case measure => simp [intOf]; omega
                  have b18 : (k == 18) = false := by simpa using k18
                  clear kp kqb
                  rcases kq with kq1 | kq1
                  · have HK := Lib.hid (HPS.out.skip (by rw [← HOE.out]; exact closed_none (.inl kq1) k23 k18 k19))
                    clear k18 k19
                    clear hof hdR
                    go_wp2
                    go_roundw
                    case rel => exact ⟨m + 1, _, _, _, by omega, rfl, by go_num, HBRV.out, HBCV.out, HK.out, HFV.out⟩
                    case measure => simp [intOf]; omega
                  · have HK := Lib.hid (HPS.out.skip (by rw [← HOE.out]; exact closed_none (.inr kq1) k23 k18 k19))
                    clear k18 k19
                    clear hof hdR
                    go_wp2
                    go_roundw
                    case rel => exact ⟨m + 1, _, _, _, by omega, rfl, by go_num, HBRV.out, HBCV.out, HK.out, HFV.out⟩
                    case measure => simp [intOf]; omega
            · obtain rfl : m = no := by omega
              have HK := Lib.hid (HX.out.2.2.1.nextB (Nat.le_of_eq HNO.out.symm))
              clear hbR hbC hPs hfv bU hur hRS hOS hlS hFg eO hbe hBm hOr
              go_wp2
              go_roundw
              case rel => exact ⟨i + 1, _, _, _, by omega, rfl, by go_num, HX.out.1, HX.out.2.1, HK.out, HX.out.2.2.2⟩
              case measure => simp [intOf]; omega
        · obtain rfl : i = U.blocks.length := by omega
          have HF := Lib.hid hPs.fall
          have HX := Lib.hid (And.intro hbR (And.intro hbC (And.intro hPs hfz)))
          clear hbR hbC hPs hfz bU
          go_wp2
          go_roundw
          case rel => exact ⟨t, R, C, rfl, HX.out.1, HX.out.2.1, HX.out.2.2.1.lR.trans HL0.out.1, HX.out.2.2.1.lC.trans HL0.out.2, fun e => by subst e; exact HX.out.2.2.1.closed (Nat.le_refl _), HX.out.2.2.2⟩
          case measure =>
            rw [cntW_eq HX.out.1, cntW_eq HX.out.2.1, HE.out.1, HE.out.2]
            exact HF.out
end Go.Proofs.YtfkjkdoloamakaaDoor
