/- The checker of package code: a right unit. -/
import Derived.Test.YtfkjkdoloamakaaDoorMc
import Derived.Test.YtfkjkdoloamakaaDoorRq
namespace Go.Proofs.YtfkjkdoloamakaaDoor
open Go.RowKit
set_option linter.unusedVariables false
set_option linter.unusedSimpArgs false
variable {w : World} {c : Nat} {U : UnS} {Av Ab : Option Addr} {cv cb : Nat} {F : Nat → Prop}

theorem frS {a w : World} {c i : Nat} {u : Value} (h : Fr (fun b => b = c) a w) : Fr (fun b => b = c) a (w.setCell ⟨c, i, none⟩ u) := Fr.setCell (p := ⟨c, i, none⟩) h (.inl rfl) u
theorem getD_mem {α : Type} {l : List α} {i : Nat} {d : α} (h : i < l.length) : l.getD i d ∈ l := by
  rw [List.getD_eq_getElem?_getD, List.getElem?_eq_getElem h]; exact List.getElem_mem h
theorem Fr.drew {M : Nat → Prop} {a w : World} (h : Fr M a w) : Fr M a w.drew := ⟨h.os, h.tape, h.output, h.size, h.block⟩
def opsSum : List BlkS → Nat
  | [] => 0
  | b :: r => b.ops.length + opsSum r
structure BlFine (U : UnS) (b : BlkS) : Prop where
  ops : ∀ o ∈ b.ops, OpFine U o
  ed : EdFine U b.ed
  ct : b.ct = -1 ∨ inR b.ct U.blocks.length
  len : b.ops.length ≤ 400
structure UnFine (U : UnS) : Prop where
  nb : 0 < U.blocks.length
  mb : U.blocks.length ≤ 2000
  r1 : 1 ≤ U.regs
  r2 : U.regs ≤ 4096
  sp : 0 ≤ U.spill
  sp2 : U.spill ≤ 4096
  p1 : 0 ≤ U.params
  p2 : U.params ≤ 8
  p3 : U.params ≤ U.regs
  cd : inR U.code U.regs
  ns : U.sizes.length ≤ 16
  sz : ∀ n ∈ U.sizes, 1 ≤ n ∧ n ≤ 65536
  bls : ∀ b ∈ U.blocks, BlFine U b
  sum : opsSum U.blocks ≤ 20000

def ckC (U : UnS) (Av : Option Addr) (cv : Nat) (Ab : Option Addr) (cb : Nat) (x y : Int) : Array Value :=
  #[.slice Av U.sizes.length cv, .int .i64 U.params, .int .i64 U.regs, .int .i64 U.code, .int .i64 U.spill, .slice Ab U.blocks.length cb, .int .i64 x, .int .i64 y]
theorem Ck.of {x y : Int} (h : Blk w c 132 (ckC U Av cv Ab cb x y)) : Ck w c U Av cv Ab cb :=
  ⟨(h.cell 0).trans rfl, (h.cell 1).trans rfl, (h.cell 2).trans rfl, (h.cell 3).trans rfl, (h.cell 4).trans rfl, (h.cell 5).trans rfl⟩
theorem opsSum_take : ∀ (l : List BlkS) (k : Nat) (h : k < l.length), opsSum (l.take (k + 1)) = opsSum (l.take k) + (l.getD k dBl).ops.length ∧ opsSum (l.take (k + 1)) ≤ opsSum l
  | b :: r, 0, _ => by simp [opsSum]
  | b :: r, k + 1, h => by
    obtain ⟨e, e2⟩ := opsSum_take r k (by simpa using h)
    simp only [List.take_succ_cons, opsSum, List.getD_cons_succ] at *
    omega

set_option maxRecDepth 100000 in
set_option maxHeartbeats 4000000 in
theorem unit_ok (G : UnFine U) (B : ∃ x y, Blk w c 132 (ckC U Av cv Ab cb x y)) (hs : Row F w (.slice Av U.sizes.length cv) U.sizes.length 1 (numV U.sizes)) (hr : RdBlocks F w (.slice Ab U.blocks.length cb) U.blocks) (hF : ∀ g, F g → g ≠ c) (V : Env w) (hgf : c ≠ 0) :
    Calls Tryd.prog 75 #[.pointer (some ⟨c, 0, none⟩)] w fun x w' => x = .returned (.tuple #[]) ∧ Fr (fun b => b = c) w w' := by
  have hz : 0 < U.sizes.length → ∃ g o, Av = some ⟨g, o, none⟩ ∧ ∀ j (hj : j < U.sizes.length), w.cell? ⟨g, o + j, none⟩ = some (.int .i64 U.sizes[j]) := by
    intro h0
    obtain ⟨_, A, cc, e, _, _, hh⟩ := hs
    obtain ⟨g, o, e2, _, _, h3⟩ := hh h0
    injection e with e3
    exact ⟨g, o, e3.trans e2, fun j hj => h3 j _ (by simp [numV, hj])⟩
  obtain ⟨x0, y0, B0⟩ := B
  have lc : c < w.heap.size := B0.lt
  have nc : c ≠ w.heap.size := by omega
  have nc' := nc.symm
  have q0 : w.cell? ⟨c, 0, none⟩ = some (.slice Av U.sizes.length cv) := (B0.cell 0).trans rfl
  have q1 : w.cell? ⟨c, 1, none⟩ = some (.int .i64 U.params) := (B0.cell 1).trans rfl
  have q2 : w.cell? ⟨c, 2, none⟩ = some (.int .i64 U.regs) := (B0.cell 2).trans rfl
  have q3 : w.cell? ⟨c, 3, none⟩ = some (.int .i64 U.code) := (B0.cell 3).trans rfl
  have q4 : w.cell? ⟨c, 4, none⟩ = some (.int .i64 U.spill) := (B0.cell 4).trans rfl
  have q5 : w.cell? ⟨c, 5, none⟩ = some (.slice Ab U.blocks.length cb) := (B0.cell 5).trans rfl
  have g1 := G.nb
  have g2 := G.mb
  have g3 := G.r1
  have g4 := G.r2
  have g5 := G.sp
  have g6 := G.sp2
  have g7 := G.p1
  have g8 := G.p2
  have g9 := G.p3
  obtain ⟨ga, gb⟩ := G.cd
  have gc := G.ns
  have HG := Lib.hid G
  have HZ := Lib.hid hz
  have HR := Lib.hid hr
  have HF := Lib.hid hF
  have HV := Lib.hid V
  have HB := Lib.hid B0
  have hse : ∃ vs : Value, True := ⟨.nilFunc, trivial⟩
  clear G B0 hs hr hF V hz hse
  go_enter Tryd.func75, Tryd.ntmps75
  go_wp2_with (first
    | (go_at_call 91; refine (must_ok _ _ _).mono ?_; rintro x w3 ⟨rfl, rfl⟩)
    | (go_at_call 92; refine (sizes_ok _ _ U.sizes gc HG.out.sz ?hc).mono ?_; (case hc => exact fun h0 => let ⟨g, o, e, h⟩ := HZ.out h0; ⟨g, o, e, fun j hj => cellA (h j hj)⟩); rintro x w3 ⟨rfl, rfl⟩)
    | (go_at_call 70; refine (within_yes _ _ ga gb _).mono ?_; rintro x w3 ⟨rfl, rfl⟩))
  go_loopw [3, 83] (fun v3 v83 wr => ∃ k : Nat, k ≤ U.blocks.length ∧ v3 = .int .i64 (opsSum (U.blocks.take k)) ∧ v83 = .int .i64 k ∧ Fr (fun b => b = c) w wr ∧ wr.cell? ⟨w.heap.size, 5, none⟩ = some (.slice Ab U.blocks.length cb) ∧ ∃ x y, Blk wr c 132 (ckC U Av cv Ab cb x y)) (fun _ v83 _ => U.blocks.length - (intOf v83).toNat)
  case atStart =>
    refine ⟨0, Nat.zero_le _, rfl, rfl, (Fr.refl _ _).alloc _, ?_, x0, y0, HB.out.alloc _⟩
    simp [go_sem]
  case round =>
    rename World => wo
    obtain ⟨k, hk, rfl, rfl, hf, hc5, x, y, B⟩ := hrel
    by_cases hlt : k < U.blocks.length
    · have hR := HR.out.fr hf HF.out
      obtain ⟨g, o, c', A, nn, cc, eb, en, d0, d1, d2, d3, d4, d5, hops⟩ := code_at hR k hlt
      have hgF := HF.out _ (code_F hR hlt eb)
      injection eb with e1 _ e3
      subst e1
      subst e3
      have hBF : BlFine U (U.blocks.getD k dBl) := by
        rw [List.getD_eq_getElem?_getD, List.getElem?_eq_getElem hlt]; exact HG.out.bls _ (List.getElem_mem hlt)
      have hnn : nn ≤ 400 := by rw [en]; exact hBF.len
      have dn : decide ((nn : Int) ≤ 400) = true := by simp; omega
      have hct := hBF.ct
      obtain ⟨hs1, hs2⟩ := opsSum_take U.blocks k hlt
      have hsum := HG.out.sum
      obtain ⟨sm, hsm⟩ : ∃ sm, sm = opsSum (U.blocks.take k) := ⟨_, rfl⟩
      rw [← hsm, ← en] at hs1
      rw [hs1] at hs2
      rw [← hsm]
      obtain ⟨ct, hcte⟩ : ∃ ct, ct = (U.blocks.getD k dBl).ct := ⟨_, rfl⟩
      rw [← hcte] at d5 hct
      obtain ⟨ed, hede⟩ : ∃ ed, ed = (U.blocks.getD k dBl).ed := ⟨_, rfl⟩
      rw [← hede] at d1 d2 d3 d4
      obtain ⟨ek, ea, et, el⟩ := ed
      simp only at d1 d2 d3 d4
      have hED : EdFine U ⟨ek, ea, et, el⟩ := by rw [hede]; exact hBF.ed
      have HED := Lib.hid hED
      have HOP := Lib.hid hBF.ops
      have HOPS := Lib.hid hops
      have HS1 := Lib.hid hs1
      have HEN := Lib.hid en
      have HFR := Lib.hid hf
      have HBB := Lib.hid B
      have HRR := Lib.hid hR
      have hgc : g ≠ c := hgF
      have hgc' := hgc.symm
      have lcr : c < wo.heap.size := B.lt
      have ncr : c ≠ wo.heap.size := by omega
      have ncr' := ncr.symm
      have lg : g < wo.heap.size := lt_cell d0
      have ng : g ≠ wo.heap.size := by omega
      have l5 := lt_cell hc5
      have n5 : w.heap.size ≠ wo.heap.size := by omega
      have n5' := n5.symm
      have e6 : wo.cell? ⟨c, 6, none⟩ = some (.int .i64 x) := (B.cell 6).trans rfl
      have e7 : wo.cell? ⟨c, 7, none⟩ = some (.int .i64 y) := (B.cell 7).trans rfl
      have f6 := B.frozen 6
      have f7 := B.frozen 7
      clear hBF hs1 hsm hcte hede hED hops B en hR hf hgF
      rcases hct with rfl | ⟨ct0, ct1⟩
      · go_wp2
        go_region
        go_wp2_with (first
          | (go_at_call 91; refine (must_ok _ _ _).mono ?_; rintro x w3 ⟨rfl, rfl⟩)
          | (go_at_call 70; refine (within_yes _ _ ct0 ct1 _).mono ?_; rintro x w3 ⟨rfl, rfl⟩))
        go_loopw [120] (fun v120 wi => ∃ j : Nat, j ≤ nn ∧ v120 = .int .i64 j ∧ Fr (fun b => b = c) wo wi ∧ wo.heap.size < wi.heap.size ∧ wi.cell? ⟨wo.heap.size, 0, none⟩ = some (.slice A nn cc) ∧ wi.cell? ⟨wo.heap.size, 1, none⟩ = some (.int .i64 ek) ∧ wi.cell? ⟨wo.heap.size, 2, none⟩ = some (.int .i64 ea) ∧ wi.cell? ⟨wo.heap.size, 3, none⟩ = some (.int .i64 et) ∧ wi.cell? ⟨wo.heap.size, 4, none⟩ = some (.int .i64 el) ∧ ∃ x y, Blk wi c 132 (ckC U Av cv (some ⟨g, o, none⟩) cb x y)) (fun v120 _ => nn - (intOf v120).toNat)
        case atStart =>
          refine ⟨0, Nat.zero_le _, rfl, ?_, ?_, ?_, ?_, ?_, ?_, ?_, k, nn, ?_⟩
          · (repeat' (first | with_reducible refine Fr.drew ?_ | with_reducible refine Fr.drewN ?_ _ | with_reducible refine Fr.alloc ?_ _ | with_reducible refine frS ?_ | with_reducible exact Fr.refl _ _))
          · simp
          · simp [go_sem]
          · simp [go_sem]
          · simp [go_sem]
          · simp [go_sem]
          · simp [go_sem]
          · exact ((HBB.out.set_ 6 (.int .i64 k)).set_ 7 (.int .i64 nn)).alloc _
        case round =>
          obtain ⟨j, hj, rfl, hfi, hzi, z0, z1, z2, z3, z4, xi, yi, Bi⟩ := hrel
          have e7i : wr.cell? ⟨c, 7, none⟩ = some (.int .i64 yi) := (Bi.cell 7).trans rfl
          have f7i := Bi.frozen 7
          have lci : c < wr.heap.size := Bi.lt
          have nci : c ≠ wr.heap.size := by omega
          have nci' := nci.symm
          have nzi : wo.heap.size ≠ wr.heap.size := by omega
          have nzi' := nzi.symm
          have HFI := Lib.hid hfi
          have HBI := Lib.hid Bi
          have nco' : wo.heap.size ≠ c := ncr'
          clear hfi Bi
          by_cases hjn : j < nn
          · obtain ⟨g', o', rfl, p0, p1, p2, p3, p4, p5, p6⟩ := HOPS.out j hjn
            have hg2 := HF.out _ (code_F2 HRR.out hlt rfl d0 (by rw [← HEN.out]; omega))
            have hg2' := hg2.symm
            have hOF := HOP.out _ (getD_mem (d := dOp) (by rw [← HEN.out]; exact hjn))
            obtain ⟨op, hop⟩ : ∃ op, op = (U.blocks.getD k dBl).ops.getD j dOp := ⟨_, rfl⟩
            rw [← hop] at p0 p1 p2 p3 p4 p5 p6 hOF
            obtain ⟨k7, d7, a7, b7, c7, n7, g7⟩ := op
            simp only at p0 p1 p2 p3 p4 p5 p6
            have s0 := HFI.out.cell p0 hg2
            have s1 := HFI.out.cell p1 hg2
            have s2 := HFI.out.cell p2 hg2
            have s3 := HFI.out.cell p3 hg2
            have s4 := HFI.out.cell p4 hg2
            have s5 := HFI.out.cell p5 hg2
            have s6 := HFI.out.cell p6 hg2
            have lg2 := lt_cell s0
            have ng2 : g' ≠ wr.heap.size := by omega
            have HOF := Lib.hid hOF
            clear hop hOF p0 p1 p2 p3 p4 p5 p6
            go_wp2_with (first
              | (go_at_call 94; refine (opf_any (U := U) (Av := Av) (cv := cv) (Ab := some ⟨g, o, none⟩) (cb := cb) ⟨k7, d7, a7, b7, c7, n7, g7⟩ HOF.out ?kk ?vv gc g2).mono ?_; (case kk => refine Ck.of (x := xi) (y := (j : Int)) ?_; exact (HBI.out.set_ 7 (.int .i64 j)).alloc _); (case vv => refine HV.out.fr (M := fun b => b = c) ?_ (fun h => hgf h.symm); exact HFR.out.then_ (HFI.out.then_ ((frS (Fr.refl _ _)).alloc _))); rintro x w3 ⟨rfl, hb3⟩))
            have hF3 : Fr (fun b => b = c) wr w3 := ((frS (i := 7) (u := .int .i64 j) (Fr.refl _ _)).alloc _).then_ (Fr.of_below hb3)
            have HF3 := Lib.hid hF3
            have hB3 := Blk.fr (M := fun _ => False) ((HBI.out.set_ 7 (.int .i64 j)).alloc _) (Fr.of_below hb3) not_false
            have HB3 := Lib.hid hB3
            clear hF3 hB3 hb3
            go_roundw
            case rel => exact ⟨j + 1, by omega, by go_num, HFI.out.then_ HF3.out, Nat.lt_of_lt_of_le hzi HF3.out.size, HF3.out.cell z0 nco', HF3.out.cell z1 nco', HF3.out.cell z2 nco', HF3.out.cell z3 nco', HF3.out.cell z4 nco', xi, j, HB3.out⟩
            case measure => simp [intOf]; omega
          · obtain rfl : j = nn := by omega
            have K1 := HED.out
            go_wp2_with (first
              | (go_at_call 95; refine (edf_any (U := U) (Av := Av) (cv := cv) (Ab := some ⟨g, o, none⟩) (cb := cb) ⟨ek, ea, et, el⟩ HED.out ?kk g2).mono ?_; (case kk => refine Ck.of (x := xi) (y := (j : Int)) ?_; exact HBI.out.set_ 7 (.int .i64 j)); rintro x w3 ⟨rfl, hb3⟩; have hF3 : Fr (fun b => b = c) wr w3 := (frS (i := 7) (u := .int .i64 j) (Fr.refl _ _)).then_ (Fr.of_below hb3); have t0 := hF3.cell z0 nco'; have HF3 := Lib.hid hF3; have hB3 := Blk.fr (M := fun _ => False) (HBI.out.set_ 7 (.int .i64 j)) (Fr.of_below hb3) not_false; have HB3 := Lib.hid hB3; clear hF3 hB3 hb3))
            go_roundw
            case rel => exact ⟨k + 1, by omega, by rw [HS1.out]; go_num, by go_num, (HFR.out.then_ HFI.out).then_ HF3.out, HF3.out.cell (HFI.out.cell hc5 nc') nc', xi, j, HB3.out⟩
            case measure => simp [intOf]; omega
      · have hctb : (ct == -1) = false := by simp; omega
        go_wp2
        go_region
        go_wp2_with (first
          | (go_at_call 91; refine (must_ok _ _ _).mono ?_; rintro x w3 ⟨rfl, rfl⟩)
          | (go_at_call 70; refine (within_yes _ _ ct0 ct1 _).mono ?_; rintro x w3 ⟨rfl, rfl⟩))
        go_loopw [120] (fun v120 wi => ∃ j : Nat, j ≤ nn ∧ v120 = .int .i64 j ∧ Fr (fun b => b = c) wo wi ∧ wo.heap.size < wi.heap.size ∧ wi.cell? ⟨wo.heap.size, 0, none⟩ = some (.slice A nn cc) ∧ wi.cell? ⟨wo.heap.size, 1, none⟩ = some (.int .i64 ek) ∧ wi.cell? ⟨wo.heap.size, 2, none⟩ = some (.int .i64 ea) ∧ wi.cell? ⟨wo.heap.size, 3, none⟩ = some (.int .i64 et) ∧ wi.cell? ⟨wo.heap.size, 4, none⟩ = some (.int .i64 el) ∧ ∃ x y, Blk wi c 132 (ckC U Av cv (some ⟨g, o, none⟩) cb x y)) (fun v120 _ => nn - (intOf v120).toNat)
        case atStart =>
          refine ⟨0, Nat.zero_le _, rfl, ?_, ?_, ?_, ?_, ?_, ?_, ?_, k, nn, ?_⟩
          · (repeat' (first | with_reducible refine Fr.drew ?_ | with_reducible refine Fr.drewN ?_ _ | with_reducible refine Fr.alloc ?_ _ | with_reducible refine frS ?_ | with_reducible exact Fr.refl _ _))
          · simp
          · simp [go_sem]
          · simp [go_sem]
          · simp [go_sem]
          · simp [go_sem]
          · simp [go_sem]
          · exact ((HBB.out.set_ 6 (.int .i64 k)).set_ 7 (.int .i64 nn)).alloc _
        case round =>
          obtain ⟨j, hj, rfl, hfi, hzi, z0, z1, z2, z3, z4, xi, yi, Bi⟩ := hrel
          have e7i : wr.cell? ⟨c, 7, none⟩ = some (.int .i64 yi) := (Bi.cell 7).trans rfl
          have f7i := Bi.frozen 7
          have lci : c < wr.heap.size := Bi.lt
          have nci : c ≠ wr.heap.size := by omega
          have nci' := nci.symm
          have nzi : wo.heap.size ≠ wr.heap.size := by omega
          have nzi' := nzi.symm
          have HFI := Lib.hid hfi
          have HBI := Lib.hid Bi
          have nco' : wo.heap.size ≠ c := ncr'
          clear hfi Bi
          by_cases hjn : j < nn
          · obtain ⟨g', o', rfl, p0, p1, p2, p3, p4, p5, p6⟩ := HOPS.out j hjn
            have hg2 := HF.out _ (code_F2 HRR.out hlt rfl d0 (by rw [← HEN.out]; omega))
            have hg2' := hg2.symm
            have hOF := HOP.out _ (getD_mem (d := dOp) (by rw [← HEN.out]; exact hjn))
            obtain ⟨op, hop⟩ : ∃ op, op = (U.blocks.getD k dBl).ops.getD j dOp := ⟨_, rfl⟩
            rw [← hop] at p0 p1 p2 p3 p4 p5 p6 hOF
            obtain ⟨k7, d7, a7, b7, c7, n7, g7⟩ := op
            simp only at p0 p1 p2 p3 p4 p5 p6
            have s0 := HFI.out.cell p0 hg2
            have s1 := HFI.out.cell p1 hg2
            have s2 := HFI.out.cell p2 hg2
            have s3 := HFI.out.cell p3 hg2
            have s4 := HFI.out.cell p4 hg2
            have s5 := HFI.out.cell p5 hg2
            have s6 := HFI.out.cell p6 hg2
            have lg2 := lt_cell s0
            have ng2 : g' ≠ wr.heap.size := by omega
            have HOF := Lib.hid hOF
            clear hop hOF p0 p1 p2 p3 p4 p5 p6
            go_wp2_with (first
              | (go_at_call 94; refine (opf_any (U := U) (Av := Av) (cv := cv) (Ab := some ⟨g, o, none⟩) (cb := cb) ⟨k7, d7, a7, b7, c7, n7, g7⟩ HOF.out ?kk ?vv gc g2).mono ?_; (case kk => refine Ck.of (x := xi) (y := (j : Int)) ?_; exact (HBI.out.set_ 7 (.int .i64 j)).alloc _); (case vv => refine HV.out.fr (M := fun b => b = c) ?_ (fun h => hgf h.symm); exact HFR.out.then_ (HFI.out.then_ ((frS (Fr.refl _ _)).alloc _))); rintro x w3 ⟨rfl, hb3⟩))
            have hF3 : Fr (fun b => b = c) wr w3 := ((frS (i := 7) (u := .int .i64 j) (Fr.refl _ _)).alloc _).then_ (Fr.of_below hb3)
            have HF3 := Lib.hid hF3
            have hB3 := Blk.fr (M := fun _ => False) ((HBI.out.set_ 7 (.int .i64 j)).alloc _) (Fr.of_below hb3) not_false
            have HB3 := Lib.hid hB3
            clear hF3 hB3 hb3
            go_roundw
            case rel => exact ⟨j + 1, by omega, by go_num, HFI.out.then_ HF3.out, Nat.lt_of_lt_of_le hzi HF3.out.size, HF3.out.cell z0 nco', HF3.out.cell z1 nco', HF3.out.cell z2 nco', HF3.out.cell z3 nco', HF3.out.cell z4 nco', xi, j, HB3.out⟩
            case measure => simp [intOf]; omega
          · obtain rfl : j = nn := by omega
            have K1 := HED.out
            go_wp2_with (first
              | (go_at_call 95; refine (edf_any (U := U) (Av := Av) (cv := cv) (Ab := some ⟨g, o, none⟩) (cb := cb) ⟨ek, ea, et, el⟩ HED.out ?kk g2).mono ?_; (case kk => refine Ck.of (x := xi) (y := (j : Int)) ?_; exact HBI.out.set_ 7 (.int .i64 j)); rintro x w3 ⟨rfl, hb3⟩; have hF3 : Fr (fun b => b = c) wr w3 := (frS (i := 7) (u := .int .i64 j) (Fr.refl _ _)).then_ (Fr.of_below hb3); have t0 := hF3.cell z0 nco'; have HF3 := Lib.hid hF3; have hB3 := Blk.fr (M := fun _ => False) (HBI.out.set_ 7 (.int .i64 j)) (Fr.of_below hb3) not_false; have HB3 := Lib.hid hB3; clear hF3 hB3 hb3))
            go_roundw
            case rel => exact ⟨k + 1, by omega, by rw [HS1.out]; go_num, by go_num, (HFR.out.then_ HFI.out).then_ HF3.out, HF3.out.cell (HFI.out.cell hc5 nc') nc', xi, j, HB3.out⟩
            case measure => simp [intOf]; omega
    · have hsum := HG.out.sum
      have hkk : U.blocks.take k = U.blocks := List.take_of_length_le (by omega)
      rw [hkk]
      obtain ⟨sm, hsm⟩ : ∃ sm, sm = opsSum U.blocks := ⟨_, rfl⟩
      rw [← hsm] at hsum
      rw [← hsm]
      have ds : decide ((sm : Int) ≤ 20000) = true := by simp; omega
      have lcr : c < wo.heap.size := B.lt
      have e6 : wo.cell? ⟨c, 6, none⟩ = some (.int .i64 x) := (B.cell 6).trans rfl
      have e7 : wo.cell? ⟨c, 7, none⟩ = some (.int .i64 y) := (B.cell 7).trans rfl
      have f6 := B.frozen 6
      have f7 := B.frozen 7
      have HFR := Lib.hid hf
      clear hkk hsm B hf
      go_wp2_with (first
        | (go_at_call 91; refine (must_ok _ _ _).mono ?_; rintro x w3 ⟨rfl, rfl⟩))
      first | go_end0 | refine bodyPost_ret (results_none rfl _ _ _) rfl ?_
      refine ⟨rfl, HFR.out.then_ ?_⟩
      (repeat' (first | with_reducible refine Fr.drew ?_ | with_reducible refine Fr.drewN ?_ _ | with_reducible refine Fr.alloc ?_ _ | with_reducible refine frS ?_ | with_reducible exact Fr.refl _ _))
end Go.Proofs.YtfkjkdoloamakaaDoor
