/- Cells of the specification, walked: closed lists. -/
import Derived.Test.YtfkjkdoloamakaaDoorYg
import Derived.Test.YtfkjkdoloamakaaDoorMh
namespace Go.Proofs.YtfkjkdoloamakaaDoor
open Go.RowKit
set_option linter.unusedVariables false
set_option linter.unusedSimpArgs false
variable {w : World} {F : Nat → Prop} {U : UnS} {Av Ab : Option Addr} {cv cb : Nat}

theorem op_mem {l : List OpI} {m : Nat} (h : m < l.length) : l.getD m dOp ∈ l := by
  rw [List.getD_eq_getElem?_getD, List.getElem?_eq_getElem h]; exact List.getElem_mem _
set_option maxRecDepth 100000 in
set_option maxHeartbeats 4000000 in
theorem rcells_any (hu : UnIn F w U Av cv Ab cb) (G : UnGood U) (hp : ∀ W, Below w.heap.size w W → Calls Tryd.prog 69 #[unV U Av cv Ab cb] W (PoisP U W)) :
    Calls Tryd.prog 36 #[unV U Av cv Ab cb] w fun x w' => ∃ g C2 R, x = .returned (.slice (some ⟨g, 0, none⟩) C2.length C2.length) ∧ Blk w' g 4 (boolV C2).toArray ∧ w.heap.size ≤ g ∧ (R.length : Int) = U.regs ∧ (C2.length : Int) = U.spill ∧ Closed U R C2 ∧ Below w.heap.size w w' := by
  obtain ⟨W0, hW0⟩ : ∃ W0, W0 = w.alloc (.cells #[.slice Av U.sizes.length cv, .int .i64 U.params, .int .i64 U.regs, .int .i64 U.code, .int .i64 U.spill, .slice Ab U.blocks.length cb] 25) := ⟨_, rfl⟩
  have hb0 : Below w.heap.size w W0 := by rw [hW0]; exact (Below.refl _ _).alloc (Nat.le_refl _) _
  have hq : Blk W0 w.heap.size 25 #[.slice Av U.sizes.length cv, .int .i64 U.params, .int .i64 U.regs, .int .i64 U.code, .int .i64 U.spill, .slice Ab U.blocks.length cb] := by rw [hW0]; exact blk_new w rfl _ _
  have q0 : W0.cell? ⟨w.heap.size, 0, none⟩ = some (.slice Av U.sizes.length cv) := (hq.cell 0).trans rfl
  have q1 : W0.cell? ⟨w.heap.size, 1, none⟩ = some (.int .i64 U.params) := (hq.cell 1).trans rfl
  have q2 : W0.cell? ⟨w.heap.size, 2, none⟩ = some (.int .i64 U.regs) := (hq.cell 2).trans rfl
  have q3 : W0.cell? ⟨w.heap.size, 3, none⟩ = some (.int .i64 U.code) := (hq.cell 3).trans rfl
  have q4 : W0.cell? ⟨w.heap.size, 4, none⟩ = some (.int .i64 U.spill) := (hq.cell 4).trans rfl
  have q5 : W0.cell? ⟨w.heap.size, 5, none⟩ = some (.slice Ab U.blocks.length cb) := (hq.cell 5).trans rfl
  have hsp := G.sp
  have hsp2 := G.sp2
  have hnb := G.mb
  have kp := hp W0 hb0
  unfold PoisP at kp
  have mk := fun W => make_bool U.spill (by omega) (by omega) W
  have hu0 := hu.below hb0
  unfold unV at *
  have KP := Lib.hid kp
  have HW0 := Lib.hid hW0
  have HB0 := Lib.hid hb0
  have HQ := Lib.hid hq
  have HG := Lib.hid G
  have HU := Lib.hid hu0
  clear kp hp hW0 hb0 hq G hu hu0
  go_enter Tryd.func36, Tryd.ntmps36
  go_wp2_with (go_at_call 69; (rw [← HW0.out]); refine (KP.out).mono ?_; rintro x w1 ⟨gR, R, C', rfl, hbR, hgR, hRl, hCl, hcl, hb1⟩; have hq1 := HQ.out.below hb1; have p4 : w1.cell? ⟨w.heap.size, 4, none⟩ = some (.int .i64 U.spill) := (hq1.cell 4).trans rfl; have HQ1 := Lib.hid hq1; have HBR := Lib.hid hbR; have HRL := Lib.hid hRl; have HCL := Lib.hid hCl; have HCLO := Lib.hid hcl; have HB1 := Lib.hid hb1; clear hq1 hbR hRl hCl hcl hb1)
  obtain ⟨W2, hW2⟩ : ∃ W2, W2 = w1.alloc (.cells (boolV (List.replicate U.spill.toNat false)).toArray 4) := ⟨_, rfl⟩
  have bC : Blk W2 w1.heap.size 4 (boolV (List.replicate U.spill.toNat false)).toArray := by rw [hW2]; exact blk_new w1 rfl _ _
  have hb2 : Below w1.heap.size w1 W2 := by rw [hW2]; exact (Below.refl _ _).alloc (Nat.le_refl _) _
  have hb02 : Below W0.heap.size W0 W2 := HB1.out.trans (hb2.mono HB1.out.size)
  have bU2 := HQ1.out.below hb2
  have bR2 := HBR.out.below hb2
  have hu2 := HU.out.below hb02
  have lw2 : w.heap.size < w1.heap.size := HQ1.out.lt
  have lR2 : gR < w1.heap.size := HBR.out.lt
  obtain ⟨gC, hgC⟩ : ∃ x, x = w1.heap.size := ⟨_, rfl⟩
  rw [← hgC] at bC lw2 lR2
  have hge : w.heap.size ≤ gC := by omega
  have HGE := Lib.hid hge
  have nU : w.heap.size ≠ gC := by omega
  have nU' := nU.symm
  have nR : gR ≠ gC := by omega
  have HF2 : Hid (∀ g, F g → g ≠ gC) := Lib.hid fun g hg e => by
    have h1 := HU.out.hF g hg
    have h2 := HB1.out.size
    omega
  have hrl4 : R.length ≤ 4096 := by have := HRL.out; have := HG.out.r2; omega
  have hS0 : CelS U R C' (List.replicate U.spill.toNat false) 0 0 := ⟨by simp; omega, fun n hn => by
    unfold mb at hn
    rw [List.getD_eq_getElem?_getD, List.getElem?_replicate] at hn
    split at hn <;> simp at hn, fun j hj => absurd hj (Nat.not_lt_zero _), fun j hj => absurd hj (Nat.not_lt_zero _)⟩
  have HBC := Lib.hid bC
  have HBU := Lib.hid bU2
  have HBR2 := Lib.hid bR2
  have HU2 := Lib.hid hu2
  have HB02 := Lib.hid hb02
  have HS0 := Lib.hid hS0
  clear hb2 hb02 bC bU2 bR2 hu2 hS0 hge p4 q0 q1 q2 q3 q4 q5
  try rw [← hgC]
  rw [← hW2]
  have HW2 := Lib.hid hW2
  have HGC := Lib.hid hgC
  clear hW2 hgC
  go_loopw [5] (fun v5 wz => ∃ i : Nat, i ≤ U.blocks.length ∧ v5 = .int .i64 i ∧ (∃ C2, Blk wz gC 4 (boolV C2).toArray ∧ CelS U R C' C2 i 0) ∧ Fr (fun b => b = gC) W2 wz) (fun v5 _ => U.blocks.length - (intOf v5).toNat)
  case atStart => exact ⟨0, Nat.zero_le _, rfl, ⟨_, HBC.out, HS0.out⟩, Fr.refl _ _⟩
  case round =>
    obtain ⟨i, hi, rfl, ⟨C2, hbC, hSc⟩, hfz⟩ := hrel
    rename World => wz
    have bU := HBU.out.fr hfz nU
    have q0 : wz.cell? ⟨w.heap.size, 0, none⟩ = some (.slice Av U.sizes.length cv) := (bU.cell 0).trans rfl
    have q1 : wz.cell? ⟨w.heap.size, 1, none⟩ = some (.int .i64 U.params) := (bU.cell 1).trans rfl
    have q2 : wz.cell? ⟨w.heap.size, 2, none⟩ = some (.int .i64 U.regs) := (bU.cell 2).trans rfl
    have q3 : wz.cell? ⟨w.heap.size, 3, none⟩ = some (.int .i64 U.code) := (bU.cell 3).trans rfl
    have q4 : wz.cell? ⟨w.heap.size, 4, none⟩ = some (.int .i64 U.spill) := (bU.cell 4).trans rfl
    have q5 : wz.cell? ⟨w.heap.size, 5, none⟩ = some (.slice Ab U.blocks.length cb) := (bU.cell 5).trans rfl
    by_cases hlt : i < U.blocks.length
    · have hiI : (i : Int) < U.blocks.length := by omega
      have HFZ := Lib.hid hfz
      have HBCZ := Lib.hid hbC
      have HSC := Lib.hid hSc
      have lwz : w.heap.size < wz.heap.size := bU.lt
      obtain ⟨no, hno⟩ : ∃ no, no = (U.blocks.getD i dBl).ops.length := ⟨_, rfl⟩
      have HNO := Lib.hid hno
      clear bU hfz hbC hSc hno
      go_wp2
      go_loopw [6] (fun v6 wv => ∃ k : Nat, k ≤ no ∧ v6 = .int .i64 k ∧ (∃ C2, Blk wv gC 4 (boolV C2).toArray ∧ CelS U R C' C2 i k) ∧ Fr (fun b => b = gC) W2 wv) (fun v6 _ => no - (intOf v6).toNat)
      case atStart => exact ⟨0, Nat.zero_le _, rfl, ⟨_, HBCZ.out, HSC.out⟩, HFZ.out⟩
      case round =>
        obtain ⟨m, hm, rfl, ⟨C3, hbC, hSc⟩, hfv⟩ := hrel
        rename World => wv
        have bU := HBU.out.fr hfv nU
        clear q0 q1 q2 q3 q4 q5
        have q0 : wv.cell? ⟨w.heap.size, 0, none⟩ = some (.slice Av U.sizes.length cv) := (bU.cell 0).trans rfl
        have q1 : wv.cell? ⟨w.heap.size, 1, none⟩ = some (.int .i64 U.params) := (bU.cell 1).trans rfl
        have q2 : wv.cell? ⟨w.heap.size, 2, none⟩ = some (.int .i64 U.regs) := (bU.cell 2).trans rfl
        have q3 : wv.cell? ⟨w.heap.size, 3, none⟩ = some (.int .i64 U.code) := (bU.cell 3).trans rfl
        have q4 : wv.cell? ⟨w.heap.size, 4, none⟩ = some (.int .i64 U.spill) := (bU.cell 4).trans rfl
        have q5 : wv.cell? ⟨w.heap.size, 5, none⟩ = some (.slice Ab U.blocks.length cb) := (bU.cell 5).trans rfl
        have hur := HU2.out.fr hfv HF2.out
        obtain ⟨vsS, hlS, hRS, hOS⟩ := hur.hr
        obtain ⟨g2, o2, rfl, hFg, d0, d1, d2, d3, d4, d5⟩ := blk_at hlS hRS hlt
        have hOr := hOS i hlt
        have hbe : U.blocks[i] = U.blocks.getD i dBl := by rw [List.getD_eq_getElem?_getD, List.getElem?_eq_getElem hlt]; rfl
        rw [hbe] at hOr
        have hsh : ∃ A cc, vsS.getD i .nilFunc = .slice A (U.blocks.getD i dBl).ops.length cc := by obtain ⟨_, A, cc, e, h, _⟩ := hOr; exact ⟨A, cc, e⟩
        obtain ⟨Ao, co, eO⟩ := hsh
        rw [eO, ← HNO.out] at d0 hOr
        have lwv : w.heap.size < wv.heap.size := bU.lt
        have lg2 : g2 < wv.heap.size := lt_cell d0
        have hBm : U.blocks.getD i dBl ∈ U.blocks := by rw [← hbe]; exact List.getElem_mem _
        have hlen : no ≤ 400 := by rw [HNO.out]; exact (HG.out.bls _ hBm).len
        have HBCV := Lib.hid hbC
        have HSCV := Lib.hid hSc
        have HFV := Lib.hid hfv
        by_cases hmt : m < no
        · have hmI : (m : Int) < no := by omega
          have hmt' : m < (U.blocks.getD i dBl).ops.length := by rw [← HNO.out]; exact hmt
          obtain ⟨_, A', c', eA, _, _, hh⟩ := hOr
          obtain ⟨g4, o4, e4A, _, lg4, hc4⟩ := hh (by omega)
          injection eA with eA1 _ eA2
          subst eA1 eA2
          subst e4A
          have hat := fun j (hj : j < 7) => opsC_at (U.blocks.getD i dBl).ops m hmt' j hj
          have hof : OpGood U ((U.blocks.getD i dBl).ops.getD m dOp) := (HG.out.bls _ hBm).ops _ (op_mem hmt')
          have hco : ClosedO R C' ((U.blocks.getD i dBl).ops.getD m dOp) := HCLO.out _ hBm _ (op_mem hmt')
          obtain ⟨o, hoe⟩ : ∃ o, o = (U.blocks.getD i dBl).ops.getD m dOp := ⟨_, rfl⟩
          rw [← hoe] at hat hof hco
          have HOE := Lib.hid hoe
          obtain ⟨k, d, a, b, c, n, g⟩ := o
          have u0 : wv.cell? ⟨g4, o4 + m * 7, none⟩ = some (.int .i64 k) := hc4 (m * 7) _ ((hat 0 (by omega)).trans rfl)
          have u1 : wv.cell? ⟨g4, o4 + m * 7 + 1, none⟩ = some (.int .i64 d) := by rw [Nat.add_assoc]; exact hc4 (m * 7 + 1) _ ((hat 1 (by omega)).trans rfl)
          have u2 : wv.cell? ⟨g4, o4 + m * 7 + 2, none⟩ = some (.int .i64 a) := by rw [Nat.add_assoc]; exact hc4 (m * 7 + 2) _ ((hat 2 (by omega)).trans rfl)
          have u3 : wv.cell? ⟨g4, o4 + m * 7 + 3, none⟩ = some (.int .i64 b) := by rw [Nat.add_assoc]; exact hc4 (m * 7 + 3) _ ((hat 3 (by omega)).trans rfl)
          have u4 : wv.cell? ⟨g4, o4 + m * 7 + 4, none⟩ = some (.int .i64 c) := by rw [Nat.add_assoc]; exact hc4 (m * 7 + 4) _ ((hat 4 (by omega)).trans rfl)
          have u5 : wv.cell? ⟨g4, o4 + m * 7 + 5, none⟩ = some (.int .i64 n) := by rw [Nat.add_assoc]; exact hc4 (m * 7 + 5) _ ((hat 5 (by omega)).trans rfl)
          have u6 : wv.cell? ⟨g4, o4 + m * 7 + 6, none⟩ = some (.int .i64 g) := by rw [Nat.add_assoc]; exact hc4 (m * 7 + 6) _ ((hat 6 (by omega)).trans rfl)
          have ha0 : 0 ≤ a := hof.a.1
          have ha1 : a < R.length := by rw [HRL.out]; exact hof.a.2
          have bR := HBR2.out.fr hfv nR
          have ca := boolCell bR ha0 ha1
          have lRv : gR < wv.heap.size := bR.lt
          have lCv : gC < wv.heap.size := hbC.lt
          obtain ⟨ra, hra⟩ : ∃ x, x = mb R a := ⟨_, rfl⟩
          rw [← hra] at ca
          have HRA := Lib.hid hra
          have hl2 := hSc.len
          by_cases h19 : k = 19
          · subst h19
            obtain ⟨n0, n1⟩ : inR n U.spill := hof.cell (.inr rfl)
            have hn3 : inR n C3.length := ⟨n0, by rw [hl2]; exact n1⟩
            cases ra
            · have hk : KeptO R C3 ((U.blocks.getD i dBl).ops.getD m dOp) := by rw [← HOE.out]; exact fun _ h => by rw [← HRA.out] at h; cases h
              have HK := Lib.hid (HSCV.out.skip hk)
              clear hk hat hof hco hc4 hh hoe hra bR hSc hbC hfv bU hur hRS hOS hlS hFg eO hbe hBm hl2
              go_wp2
              go_roundw
              case rel => exact ⟨m + 1, by omega, by go_num, ⟨C3, HBCV.out.alloc _, HK.out⟩, HFV.out.alloc _⟩
              case measure => simp [intOf]; omega
            · have hcn : mb C' n = true := hco.keep rfl HRA.out.symm
              have HK := Lib.hid (HSCV.out.set hn3 hcn (by rw [← HOE.out]))
              have cn := boolCell hbC hn3.1 hn3.2
              have fn := hbC.frozen n.toNat
              clear hcn hat hof hco hc4 hh hoe hra bR hSc hbC hfv bU hur hRS hOS hlS hFg eO hbe hBm hl2
              go_wp2
              go_roundw
              case rel =>
                refine ⟨m + 1, by omega, by go_num, ⟨C3.set n.toNat true, ?_, HK.out⟩, ?_⟩
                · first | exact (boolSet HBCV.out n.toNat).alloc _ | exact boolSet (HBCV.out.alloc _) n.toNat
                · first | exact (HFV.out.setCell (M := fun b => b = gC) (p := ⟨gC, n.toNat, none⟩) (.inl rfl) _).alloc _ | exact (HFV.out.alloc _).setCell (M := fun b => b = gC) (p := ⟨gC, n.toNat, none⟩) (.inl rfl) _
              case measure => simp [intOf]; omega
          · have hkb : (k == 19) = false := by simpa using h19
            have hk : KeptO R C3 ((U.blocks.getD i dBl).ops.getD m dOp) := by rw [← HOE.out]; exact fun e => absurd e h19
            have HK := Lib.hid (HSCV.out.skip hk)
            clear hk hat hof hco hc4 hh hoe hra bR hSc hbC hfv bU hur hRS hOS hlS hFg eO hbe hBm hl2 h19
            go_wp2
            go_roundw
            case rel => exact ⟨m + 1, by omega, by go_num, ⟨C3, HBCV.out.alloc _, HK.out⟩, HFV.out.alloc _⟩
            case measure => simp [intOf]; omega
        · obtain rfl : m = no := by omega
          have HK := Lib.hid (HSCV.out.nextB (Nat.le_of_eq HNO.out.symm))
          clear hSc hbC hfv bU hur hRS hOS hlS hFg eO hbe hBm hOr
          go_wp2
          go_roundw
          case rel => exact ⟨i + 1, by omega, by go_num, ⟨C3, HBCV.out, HK.out⟩, HFV.out⟩
          case measure => simp [intOf]; omega
    · obtain rfl : i = U.blocks.length := by omega
      have hcl := hSc.closed (Nat.le_refl _) HCLO.out
      have hl2 := hSc.len
      have hl3 : C2.length = U.spill.toNat := by omega
      have HL3 := Lib.hid hl3
      have HBF := Lib.hid (HB0.out.trans ((HB02.out.mono HB0.out.size)))
      have HFZ := Lib.hid hfz
      have HX := Lib.hid (And.intro hbC (And.intro hcl hl2))
      clear hfz hbC hSc hcl hl2 hl3 bU
      go_wp2
      go_ret
      refine ⟨gC, C2, R, by rw [HL3.out]; rfl, HX.out.1, HGE.out, HRL.out, HX.out.2.2, HX.out.2.1, HBF.out.trans (HFZ.out.below (fun b hb => by subst hb; exact HGE.out) HBF.out.size)⟩
end Go.Proofs.YtfkjkdoloamakaaDoor
