/- The checker of package code: what it says of any unit's blocks. -/
import Derived.Test.YtfkjkdoloamakaaDoorPg
namespace Go.Proofs.YtfkjkdoloamakaaDoor
open Go.RowKit
set_option linter.unusedVariables false
set_option linter.unusedSimpArgs false
variable {w : World} {c : Nat} {U : UnS} {Av Ab : Option Addr} {cv cb : Nat} {F : Nat → Prop}

/-- the first error of some -/
def firstE : List Int → Int
  | [] => 0
  | e :: r => if e ≠ 0 then e else firstE r
/-- the error of a block -/
def blErr (U : UnS) (b : BlkS) : Int :=
  if ¬ (b.ct = -1 ∨ inR b.ct U.blocks.length) then 2
  else if 400 < b.ops.length then 3
  else if firstE (b.ops.map (opErr U)) ≠ 0 then firstE (b.ops.map (opErr U)) else edErr U b.ed
/-- the error of a unit's blocks -/
def tailErr (U : UnS) : Int :=
  if firstE (U.blocks.map (blErr U)) ≠ 0 then firstE (U.blocks.map (blErr U)) else if 20000 < opsSum U.blocks then 3 else 0
/-- a unit that is right but for its blocks -/
structure UnHead (U : UnS) : Prop where
  nb : 0 < U.blocks.length
  mb : U.blocks.length ≤ 2000
  r1 : 1 ≤ U.regs
  r2 : U.regs ≤ 4096
  sp : 0 ≤ U.spill
  sp2 : U.spill ≤ 4096
  p1 : 0 ≤ U.params
  p2 : U.params ≤ 8
  p3 : U.params ≤ U.regs
  cd : inR U.code U.regs
  ns : U.sizes.length ≤ 16
  sz : ∀ n ∈ U.sizes, 1 ≤ n ∧ n ≤ 65536
theorem firstE_drop {α : Type} (f : α → Int) (l : List α) (d : α) (k : Nat) (h : k < l.length) (e : Int) (he : e = firstE ((l.drop k).map f)) : (f (l.getD k d) = 0 → e = firstE ((l.drop (k + 1)).map f)) ∧ (f (l.getD k d) ≠ 0 → e = f (l.getD k d)) := by
  have hg : l.getD k d = l[k] := by rw [List.getD_eq_getElem?_getD, List.getElem?_eq_getElem h]; rfl
  rw [List.drop_eq_getElem_cons h, List.map_cons] at he
  rw [hg]
  constructor
  · intro h0
    rw [he, firstE, if_neg (fun hn => hn h0)]
  · intro h0
    rw [he, firstE, if_pos h0]
theorem firstE_end {α : Type} (f : α → Int) (l : List α) (k : Nat) (h : l.length ≤ k) (e : Int) (he : e = firstE ((l.drop k).map f)) : e = 0 := by
  rw [he, List.drop_of_length_le h]; rfl
theorem outP_died {e e' : Int} {x : Ending} (h : e = e') (h0 : e' ≠ 0) (d : Died e' x) : OutP e x := by
  unfold OutP; rw [h, if_neg h0]; exact d
theorem outP_zero {e : Int} {x : Ending} (h : e = 0) (hx : x = .returned (.tuple #[])) : OutP e x := by
  unfold OutP; rw [if_pos h]; exact hx
theorem outP_cases {e : Int} {x : Ending} (h : OutP e x) : (e = 0 ∧ x = .returned (.tuple #[])) ∨ (e ≠ 0 ∧ Died e x) := by
  unfold OutP at h
  by_cases he : e = 0
  · rw [if_pos he] at h; exact .inl ⟨he, h⟩
  · rw [if_neg he] at h; exact .inr ⟨he, h⟩
theorem tail_bad {e : Int} (h : firstE (U.blocks.map (blErr U)) = e) (h0 : e ≠ 0) : tailErr U = e := by
  unfold tailErr; rw [h, if_pos h0]
theorem CkP.of {x y : Int} (h : Blk w c 132 (ckC U Av cv Ab cb x y)) : CkP w c := ⟨x, y, (h.cell 6).trans rfl, (h.cell 7).trans rfl⟩
theorem frB {W w3 : World} (h : Below W.heap.size W w3) : Fr (fun b => b = c) W w3 := Fr.of_below h

set_option maxRecDepth 100000 in
set_option maxHeartbeats 16000000 in
theorem unit_blocks (G : UnHead U) (B : ∃ x y, Blk w c 132 (ckC U Av cv Ab cb x y)) (hs : Row F w (.slice Av U.sizes.length cv) U.sizes.length 1 (numV U.sizes)) (hr : RdBlocks F w (.slice Ab U.blocks.length cb) U.blocks) (hF : ∀ g, F g → g ≠ c) (V : Env w) (hgf : c ≠ 0) (hlen : ∀ b ∈ U.blocks, b.ops.length ≤ 4294967296) :
    Calls Tryd.prog 75 #[.pointer (some ⟨c, 0, none⟩)] w fun x w' => OutP (tailErr U) x ∧ Fr (fun b => b = c) w w' := by
  have hz : 0 < U.sizes.length → ∃ g o, Av = some ⟨g, o, none⟩ ∧ ∀ j (hj : j < U.sizes.length), w.cell? ⟨g, o + j, none⟩ = some (.int .i64 U.sizes[j]) := by
    intro h0
    obtain ⟨_, A, cc, e, _, _, hh⟩ := hs
    obtain ⟨g, o, e2, _, _, h3⟩ := hh h0
    injection e with e3
    exact ⟨g, o, e3.trans e2, fun j hj => h3 j _ (by simp [numV, hj])⟩
  obtain ⟨x0, y0, B0⟩ := B
  have lc : c < w.heap.size := B0.lt
  have nc : c ≠ w.heap.size := by omega
  have nc' := nc.symm
  have q0 : w.cell? ⟨c, 0, none⟩ = some (.slice Av U.sizes.length cv) := (B0.cell 0).trans rfl
  have q1 : w.cell? ⟨c, 1, none⟩ = some (.int .i64 U.params) := (B0.cell 1).trans rfl
  have q2 : w.cell? ⟨c, 2, none⟩ = some (.int .i64 U.regs) := (B0.cell 2).trans rfl
  have q3 : w.cell? ⟨c, 3, none⟩ = some (.int .i64 U.code) := (B0.cell 3).trans rfl
  have q4 : w.cell? ⟨c, 4, none⟩ = some (.int .i64 U.spill) := (B0.cell 4).trans rfl
  have q5 : w.cell? ⟨c, 5, none⟩ = some (.slice Ab U.blocks.length cb) := (B0.cell 5).trans rfl
  have g1 := G.nb
  have g2 := G.mb
  have g3 := G.r1
  have g4 := G.r2
  have g5 := G.sp
  have g6 := G.sp2
  have g7 := G.p1
  have g8 := G.p2
  have g9 := G.p3
  obtain ⟨ga, gb⟩ := G.cd
  have gc := G.ns
  have HG := Lib.hid G
  have HZ := Lib.hid hz
  have HR := Lib.hid hr
  have HF := Lib.hid hF
  have HV := Lib.hid V
  have HB := Lib.hid B0
  have HLN := Lib.hid hlen
  have hse : ∃ vs : Value, True := ⟨.nilFunc, trivial⟩
  clear G B0 hs hr hF V hz hse hlen
  go_enter Tryd.func75, Tryd.ntmps75
  go_wp2_with (first
    | (go_at_call 91; refine (must_ok _ _ _).mono ?_; rintro x w3 ⟨rfl, rfl⟩)
    | (go_at_call 92; refine (sizes_ok _ _ U.sizes gc HG.out.sz ?hc).mono ?_; (case hc => exact fun h0 => let ⟨g, o, e, h⟩ := HZ.out h0; ⟨g, o, e, fun j hj => cellA (h j hj)⟩); rintro x w3 ⟨rfl, rfl⟩)
    | (go_at_call 70; refine (within_yes _ _ ga gb _).mono ?_; rintro x w3 ⟨rfl, rfl⟩))
  go_loopw [3, 83] (fun v3 v83 wr => ∃ k : Nat, k ≤ U.blocks.length ∧ v3 = .int .i64 (opsSum (U.blocks.take k)) ∧ v83 = .int .i64 k ∧ Fr (fun b => b = c) w wr ∧ wr.cell? ⟨w.heap.size, 5, none⟩ = some (.slice Ab U.blocks.length cb) ∧ (∃ x y, Blk wr c 132 (ckC U Av cv Ab cb x y)) ∧ Hid (firstE (U.blocks.map (blErr U)) = firstE ((U.blocks.drop k).map (blErr U)) ∧ opsSum (U.blocks.take k) ≤ 400 * k)) (fun _ v83 _ => U.blocks.length - (intOf v83).toNat)
  case atStart =>
    refine ⟨0, Nat.zero_le _, rfl, rfl, (Fr.refl _ _).alloc _, ?_, ⟨x0, y0, HB.out.alloc _⟩, Lib.hid ⟨rfl, by simp [opsSum]⟩⟩
    simp [go_sem]
  case round =>
    rename World => wo
    obtain ⟨k, hk, rfl, rfl, hf, hc5, ⟨x, y, B⟩, hFE⟩ := hrel
    by_cases hlt : k < U.blocks.length
    · have hR := HR.out.fr hf HF.out
      obtain ⟨g, o, c', A, nn, cc, eb, en, d0, d1, d2, d3, d4, d5, hops⟩ := code_at hR k hlt
      have hgF := HF.out _ (code_F hR hlt eb)
      injection eb with e1 _ e3
      subst e1
      subst e3
      obtain ⟨hNX, hBD⟩ := firstE_drop (blErr U) U.blocks dBl k hlt _ hFE.out.1
      have hsl : opsSum (U.blocks.take k) ≤ 400 * k := hFE.out.2
      have hnn : nn ≤ 4294967296 := by rw [en]; exact HLN.out _ (getD_mem hlt)
      obtain ⟨hs1, _⟩ := opsSum_take U.blocks k hlt
      obtain ⟨sm, hsm⟩ : ∃ sm, sm = opsSum (U.blocks.take k) := ⟨_, rfl⟩
      rw [← hsm, ← en] at hs1
      rw [← hsm] at hsl
      rw [← hsm]
      have HBE : Hid (blErr U (U.blocks.getD k dBl) = if ¬ ((U.blocks.getD k dBl).ct = -1 ∨ inR (U.blocks.getD k dBl).ct U.blocks.length) then 2
          else if 400 < nn then 3
          else if firstE ((U.blocks.getD k dBl).ops.map (opErr U)) ≠ 0 then firstE ((U.blocks.getD k dBl).ops.map (opErr U)) else edErr U (U.blocks.getD k dBl).ed) := Lib.hid (by rw [en]; rfl)
      obtain ⟨bops, hbops⟩ : ∃ bops, bops = (U.blocks.getD k dBl).ops := ⟨_, rfl⟩
      obtain ⟨eB, heB⟩ : ∃ eB, eB = blErr U (U.blocks.getD k dBl) := ⟨_, rfl⟩
      obtain ⟨ct, hcte⟩ : ∃ ct, ct = (U.blocks.getD k dBl).ct := ⟨_, rfl⟩
      rw [← hcte] at d5 HBE
      obtain ⟨ed, hede⟩ : ∃ ed, ed = (U.blocks.getD k dBl).ed := ⟨_, rfl⟩
      rw [← hede] at d1 d2 d3 d4 HBE
      rw [← hbops] at HBE en hops
      rw [← heB] at HBE hNX hBD
      obtain ⟨ek, ea, et, el⟩ := ed
      simp only at d1 d2 d3 d4
      have HNX := Lib.hid hNX
      have HBD : Hid (eB ≠ 0 → tailErr U = eB) := Lib.hid fun h => tail_bad (hBD h) h
      have HOPS := Lib.hid hops
      have HS1 := Lib.hid hs1
      have HEN := Lib.hid en
      have HFR := Lib.hid hf
      have HBB := Lib.hid B
      have HRR := Lib.hid hR
      have HBOP := Lib.hid hbops
      have HSL := Lib.hid hsl
      have hgc : g ≠ c := hgF
      have hgc' := hgc.symm
      have lcr : c < wo.heap.size := B.lt
      have ncr : c ≠ wo.heap.size := by omega
      have ncr' := ncr.symm
      have lg : g < wo.heap.size := lt_cell d0
      have ng : g ≠ wo.heap.size := by omega
      have l5 := lt_cell hc5
      have n5 : w.heap.size ≠ wo.heap.size := by omega
      have n5' := n5.symm
      have e6 : wo.cell? ⟨c, 6, none⟩ = some (.int .i64 x) := (B.cell 6).trans rfl
      have e7 : wo.cell? ⟨c, 7, none⟩ = some (.int .i64 y) := (B.cell 7).trans rfl
      have f6 := B.frozen 6
      have f7 := B.frozen 7
      have hsm2 : sm ≤ 800000 := by omega
      clear hs1 hsm hcte hede hops B en hR hf hgF hNX hBD hFE heB hbops hsl
      have hcase : ct = -1 ∨ inR ct U.blocks.length ∨ (ct ≠ -1 ∧ ¬ inR ct U.blocks.length) := by
        by_cases h1 : ct = -1
        · exact .inl h1
        · by_cases h2 : inR ct U.blocks.length
          · exact .inr (.inl h2)
          · exact .inr (.inr ⟨h1, h2⟩)
      rcases hcase with rfl | hct | ⟨hct1, hct2⟩
      · by_cases hn4 : nn ≤ 400
        · have dn : decide ((nn : Int) ≤ 400) = true := by simp; omega
          have HB2 : Hid (eB = if firstE (bops.map (opErr U)) ≠ 0 then firstE (bops.map (opErr U)) else edErr U ⟨ek, ea, et, el⟩) := Lib.hid (by rw [HBE.out, if_neg (by simp), if_neg (by omega)])
          clear HBE
          go_wp2
          go_region
          go_wp2_with (first
              | (go_at_call 91; (with_reducible refine (must_ok _ _ _).mono ?_); rintro x w3 ⟨rfl, rfl⟩))
          go_loopw [120] (fun v120 wi => ∃ j : Nat, j ≤ nn ∧ v120 = .int .i64 j ∧ Fr (fun b => b = c) wo wi ∧ wo.heap.size < wi.heap.size ∧ wi.cell? ⟨wo.heap.size, 0, none⟩ = some (.slice A nn cc) ∧ wi.cell? ⟨wo.heap.size, 1, none⟩ = some (.int .i64 ek) ∧ wi.cell? ⟨wo.heap.size, 2, none⟩ = some (.int .i64 ea) ∧ wi.cell? ⟨wo.heap.size, 3, none⟩ = some (.int .i64 et) ∧ wi.cell? ⟨wo.heap.size, 4, none⟩ = some (.int .i64 el) ∧ (∃ x y, Blk wi c 132 (ckC U Av cv (some ⟨g, o, none⟩) cb x y)) ∧ Hid (firstE (bops.map (opErr U)) = firstE ((bops.drop j).map (opErr U)))) (fun v120 _ => nn - (intOf v120).toNat)
          case atStart =>
            refine ⟨0, Nat.zero_le _, rfl, ?_, ?_, ?_, ?_, ?_, ?_, ?_, ⟨k, nn, ?_⟩, Lib.hid rfl⟩
            · (repeat' (first | with_reducible refine Fr.drew ?_ | with_reducible refine Fr.drewN ?_ _ | with_reducible refine Fr.alloc ?_ _ | with_reducible refine frS ?_ | with_reducible exact Fr.refl _ _))
            · simp
            · simp [go_sem]
            · simp [go_sem]
            · simp [go_sem]
            · simp [go_sem]
            · simp [go_sem]
            · exact ((HBB.out.set_ 6 (.int .i64 k)).set_ 7 (.int .i64 nn)).alloc _
          case round =>
            obtain ⟨j, hj, rfl, hfi, hzi, z0, z1, z2, z3, z4, ⟨xi, yi, Bi⟩, hFJ⟩ := hrel
            have e7i : wr.cell? ⟨c, 7, none⟩ = some (.int .i64 yi) := (Bi.cell 7).trans rfl
            have f7i := Bi.frozen 7
            have lci : c < wr.heap.size := Bi.lt
            have nci : c ≠ wr.heap.size := by omega
            have nci' := nci.symm
            have nzi : wo.heap.size ≠ wr.heap.size := by omega
            have nzi' := nzi.symm
            have HFI := Lib.hid hfi
            have HBI := Lib.hid Bi
            have nco' : wo.heap.size ≠ c := ncr'
            clear hfi Bi
            by_cases hjn : j < nn
            · obtain ⟨g', o', rfl, p0, p1, p2, p3, p4, p5, p6⟩ := HOPS.out j hjn
              have hg2 := HF.out _ (code_F2 HRR.out hlt rfl d0 (by rw [← HBOP.out, ← HEN.out]; omega))
              have hg2' := hg2.symm
              obtain ⟨hNJ, hBJ⟩ := firstE_drop (opErr U) bops dOp j (by rw [← HEN.out]; exact hjn) _ hFJ.out
              obtain ⟨op, hop⟩ : ∃ op, op = bops.getD j dOp := ⟨_, rfl⟩
              rw [← hop] at p0 p1 p2 p3 p4 p5 p6 hNJ hBJ
              obtain ⟨k7, d7, a7, b7, c7, n7, g7⟩ := op
              simp only at p0 p1 p2 p3 p4 p5 p6
              have s0 := HFI.out.cell p0 hg2
              have s1 := HFI.out.cell p1 hg2
              have s2 := HFI.out.cell p2 hg2
              have s3 := HFI.out.cell p3 hg2
              have s4 := HFI.out.cell p4 hg2
              have s5 := HFI.out.cell p5 hg2
              have s6 := HFI.out.cell p6 hg2
              have lg2 := lt_cell s0
              have ng2 : g' ≠ wr.heap.size := by omega
              have HNJ := Lib.hid hNJ
              have HBJ := Lib.hid hBJ
              clear hop p0 p1 p2 p3 p4 p5 p6 hNJ hBJ hFJ
              go_wp2_with fail
              refine (opE_any (U := U) (Av := Av) (cv := cv) (Ab := some ⟨g, o, none⟩) (cb := cb) ⟨k7, d7, a7, b7, c7, n7, g7⟩ (Ck.of (x := xi) (y := (j : Int)) ((HBI.out.set_ 7 (.int .i64 j)).alloc _)) (CkP.of (Av := Av) (U := U) (cv := cv) (Ab := some ⟨g, o, none⟩) (cb := cb) (x := xi) (y := (j : Int)) ((HBI.out.set_ 7 (.int .i64 j)).alloc _)) (HV.out.fr (M := fun b => b = c) (HFR.out.then_ (HFI.out.then_ ((frS (Fr.refl _ _)).alloc _))) (fun h => hgf h.symm)) gc g2 g5).mono ?_
              rintro x w3 ⟨hx, hb3⟩
              rcases outP_cases hx with ⟨he, rfl⟩ | ⟨he, b0, a0, rfl⟩
              · have hFJ2 := HNJ.out he
                have HFJ := Lib.hid hFJ2
                have hF3 : Fr (fun b => b = c) wr w3 := ((frS (i := 7) (u := .int .i64 j) (Fr.refl _ _)).alloc _).then_ (Fr.of_below hb3)
                have HF3 := Lib.hid hF3
                have hB3 := Blk.fr (M := fun _ => False) ((HBI.out.set_ 7 (.int .i64 j)).alloc _) (Fr.of_below hb3) not_false
                have HB3 := Lib.hid hB3
                clear hF3 hB3 hb3 hx he hFJ2
                go_wp2
                go_roundw
                case rel => exact ⟨j + 1, by omega, by go_num, HFI.out.then_ HF3.out, Nat.lt_of_lt_of_le hzi HF3.out.size, HF3.out.cell z0 nco', HF3.out.cell z1 nco', HF3.out.cell z2 nco', HF3.out.cell z3 nco', HF3.out.cell z4 nco', ⟨xi, j, HB3.out⟩, HFJ⟩
                case measure => simp [intOf]; omega
              · have hFJ2 := HBJ.out he
                have he2 : eB = opErr U ⟨k7, d7, a7, b7, c7, n7, g7⟩ := by rw [HB2.out, hFJ2, if_pos he]
                exact ⟨rfl, outP_died ((HBD.out (by rw [he2]; exact he)).trans he2) he ⟨_, _, rfl⟩, HFR.out.then_ (HFI.out.then_ (((frS (i := 7) (u := .int .i64 j) (Fr.refl _ _)).alloc _).then_ (Fr.of_below hb3)))⟩
            · obtain rfl : j = nn := by omega
              have hF0 := firstE_end (opErr U) bops j (by rw [← HEN.out]; exact Nat.le_refl _) _ hFJ.out
              have he0 : eB = edErr U ⟨ek, ea, et, el⟩ := by rw [HB2.out, hF0, if_neg (fun h => h rfl)]
              have HE0 := Lib.hid he0
              clear he0 hF0 hFJ
              go_wp2_with fail
              refine (edE_any (U := U) (Av := Av) (cv := cv) (Ab := some ⟨g, o, none⟩) (cb := cb) ⟨ek, ea, et, el⟩ (Ck.of (x := xi) (y := (j : Int)) (HBI.out.set_ 7 (.int .i64 j))) (CkP.of (Av := Av) (U := U) (cv := cv) (Ab := some ⟨g, o, none⟩) (cb := cb) (x := xi) (y := (j : Int)) (HBI.out.set_ 7 (.int .i64 j))) g2).mono ?_
              rintro x w3 ⟨hx, hb3⟩
              rcases outP_cases hx with ⟨he, rfl⟩ | ⟨he, b0, a0, rfl⟩
              · have hFN := HNX.out (HE0.out.trans he)
                have HFN := Lib.hid hFN
                have hF3 : Fr (fun b => b = c) wr w3 := (frS (i := 7) (u := .int .i64 j) (Fr.refl _ _)).then_ (Fr.of_below hb3)
                have t0 := hF3.cell z0 nco'
                have HF3 := Lib.hid hF3
                have hB3 := Blk.fr (M := fun _ => False) (HBI.out.set_ 7 (.int .i64 j)) (Fr.of_below hb3) not_false
                have HB3 := Lib.hid hB3
                clear hF3 hB3 hb3 hx he hFN
                go_wp2
                go_roundw
                case rel => exact ⟨k + 1, by omega, by rw [HS1.out]; go_num, by go_num, (HFR.out.then_ HFI.out).then_ HF3.out, HF3.out.cell (HFI.out.cell hc5 nc') nc', ⟨xi, j, HB3.out⟩, Lib.hid ⟨HFN.out, by rw [HS1.out]; have := HSL.out; omega⟩⟩
                case measure => simp [intOf]; omega
              · exact ⟨rfl, outP_died ((HBD.out (by rw [HE0.out]; exact he)).trans HE0.out) he ⟨_, _, rfl⟩, HFR.out.then_ (HFI.out.then_ ((frS (i := 7) (u := .int .i64 j) (Fr.refl _ _)).then_ (Fr.of_below hb3)))⟩
        · have dn : decide ((nn : Int) ≤ 400) = false := by simp; omega
          have HB2 : Hid (eB = 3) := Lib.hid (by rw [HBE.out, if_neg (by simp), if_pos (by omega)])
          clear HBE
          go_wp2
          go_region
          go_wp2_with (first
              | (go_at_call 91; (with_reducible refine (must_ok _ _ _).mono ?_); rintro x w3 ⟨rfl, rfl⟩)
              | (go_at_call 91; (with_reducible refine (must_bad (c := c) _ _ ?rd).mono ?_); (case rd => exact CkP.of (Av := Av) (U := U) (cv := cv) (Ab := some ⟨g, o, none⟩) (cb := cb) (x := (k : Int)) (y := (nn : Int)) (((HBB.out.set_ 6 (.int .i64 k)).set_ 7 (.int .i64 nn)).alloc _)); rintro x w3 ⟨⟨b0, a0, rfl⟩, hb3⟩; have HB3 := Lib.hid hb3; clear hb3))
          refine ⟨rfl, outP_died ((HBD.out (by rw [HB2.out]; decide)).trans HB2.out) (by decide) ⟨_, _, rfl⟩, HFR.out.then_ (Fr.then_ ?_ (Fr.of_below HB3.out))⟩
          (repeat' (first | with_reducible refine Fr.drew ?_ | with_reducible refine Fr.drewN ?_ _ | with_reducible refine Fr.alloc ?_ _ | with_reducible refine frS ?_ | with_reducible exact Fr.refl _ _))
      · obtain ⟨ct0, ct1⟩ := hct
        have hctb : (ct == -1) = false := by simp; omega
        by_cases hn4 : nn ≤ 400
        · have dn : decide ((nn : Int) ≤ 400) = true := by simp; omega
          have HB2 : Hid (eB = if firstE (bops.map (opErr U)) ≠ 0 then firstE (bops.map (opErr U)) else edErr U ⟨ek, ea, et, el⟩) := Lib.hid (by rw [HBE.out, if_neg (fun h => h (.inr ⟨ct0, ct1⟩)), if_neg (by omega)])
          clear HBE
          go_wp2
          go_region
          go_wp2_with (first
              | (go_at_call 91; (with_reducible refine (must_ok _ _ _).mono ?_); rintro x w3 ⟨rfl, rfl⟩)
              | (go_at_call 70; refine (within_yes _ _ ct0 ct1 _).mono ?_; rintro x w3 ⟨rfl, rfl⟩))
          go_loopw [120] (fun v120 wi => ∃ j : Nat, j ≤ nn ∧ v120 = .int .i64 j ∧ Fr (fun b => b = c) wo wi ∧ wo.heap.size < wi.heap.size ∧ wi.cell? ⟨wo.heap.size, 0, none⟩ = some (.slice A nn cc) ∧ wi.cell? ⟨wo.heap.size, 1, none⟩ = some (.int .i64 ek) ∧ wi.cell? ⟨wo.heap.size, 2, none⟩ = some (.int .i64 ea) ∧ wi.cell? ⟨wo.heap.size, 3, none⟩ = some (.int .i64 et) ∧ wi.cell? ⟨wo.heap.size, 4, none⟩ = some (.int .i64 el) ∧ (∃ x y, Blk wi c 132 (ckC U Av cv (some ⟨g, o, none⟩) cb x y)) ∧ Hid (firstE (bops.map (opErr U)) = firstE ((bops.drop j).map (opErr U)))) (fun v120 _ => nn - (intOf v120).toNat)
          case atStart =>
            refine ⟨0, Nat.zero_le _, rfl, ?_, ?_, ?_, ?_, ?_, ?_, ?_, ⟨k, nn, ?_⟩, Lib.hid rfl⟩
            · (repeat' (first | with_reducible refine Fr.drew ?_ | with_reducible refine Fr.drewN ?_ _ | with_reducible refine Fr.alloc ?_ _ | with_reducible refine frS ?_ | with_reducible exact Fr.refl _ _))
            · simp
            · simp [go_sem]
            · simp [go_sem]
            · simp [go_sem]
            · simp [go_sem]
            · simp [go_sem]
            · exact ((HBB.out.set_ 6 (.int .i64 k)).set_ 7 (.int .i64 nn)).alloc _
          case round =>
            obtain ⟨j, hj, rfl, hfi, hzi, z0, z1, z2, z3, z4, ⟨xi, yi, Bi⟩, hFJ⟩ := hrel
            have e7i : wr.cell? ⟨c, 7, none⟩ = some (.int .i64 yi) := (Bi.cell 7).trans rfl
            have f7i := Bi.frozen 7
            have lci : c < wr.heap.size := Bi.lt
            have nci : c ≠ wr.heap.size := by omega
            have nci' := nci.symm
            have nzi : wo.heap.size ≠ wr.heap.size := by omega
            have nzi' := nzi.symm
            have HFI := Lib.hid hfi
            have HBI := Lib.hid Bi
            have nco' : wo.heap.size ≠ c := ncr'
            clear hfi Bi
            by_cases hjn : j < nn
            · obtain ⟨g', o', rfl, p0, p1, p2, p3, p4, p5, p6⟩ := HOPS.out j hjn
              have hg2 := HF.out _ (code_F2 HRR.out hlt rfl d0 (by rw [← HBOP.out, ← HEN.out]; omega))
              have hg2' := hg2.symm
              obtain ⟨hNJ, hBJ⟩ := firstE_drop (opErr U) bops dOp j (by rw [← HEN.out]; exact hjn) _ hFJ.out
              obtain ⟨op, hop⟩ : ∃ op, op = bops.getD j dOp := ⟨_, rfl⟩
              rw [← hop] at p0 p1 p2 p3 p4 p5 p6 hNJ hBJ
              obtain ⟨k7, d7, a7, b7, c7, n7, g7⟩ := op
              simp only at p0 p1 p2 p3 p4 p5 p6
              have s0 := HFI.out.cell p0 hg2
              have s1 := HFI.out.cell p1 hg2
              have s2 := HFI.out.cell p2 hg2
              have s3 := HFI.out.cell p3 hg2
              have s4 := HFI.out.cell p4 hg2
              have s5 := HFI.out.cell p5 hg2
              have s6 := HFI.out.cell p6 hg2
              have lg2 := lt_cell s0
              have ng2 : g' ≠ wr.heap.size := by omega
              have HNJ := Lib.hid hNJ
              have HBJ := Lib.hid hBJ
              clear hop p0 p1 p2 p3 p4 p5 p6 hNJ hBJ hFJ
              go_wp2_with fail
              refine (opE_any (U := U) (Av := Av) (cv := cv) (Ab := some ⟨g, o, none⟩) (cb := cb) ⟨k7, d7, a7, b7, c7, n7, g7⟩ (Ck.of (x := xi) (y := (j : Int)) ((HBI.out.set_ 7 (.int .i64 j)).alloc _)) (CkP.of (Av := Av) (U := U) (cv := cv) (Ab := some ⟨g, o, none⟩) (cb := cb) (x := xi) (y := (j : Int)) ((HBI.out.set_ 7 (.int .i64 j)).alloc _)) (HV.out.fr (M := fun b => b = c) (HFR.out.then_ (HFI.out.then_ ((frS (Fr.refl _ _)).alloc _))) (fun h => hgf h.symm)) gc g2 g5).mono ?_
              rintro x w3 ⟨hx, hb3⟩
              rcases outP_cases hx with ⟨he, rfl⟩ | ⟨he, b0, a0, rfl⟩
              · have hFJ2 := HNJ.out he
                have HFJ := Lib.hid hFJ2
                have hF3 : Fr (fun b => b = c) wr w3 := ((frS (i := 7) (u := .int .i64 j) (Fr.refl _ _)).alloc _).then_ (Fr.of_below hb3)
                have HF3 := Lib.hid hF3
                have hB3 := Blk.fr (M := fun _ => False) ((HBI.out.set_ 7 (.int .i64 j)).alloc _) (Fr.of_below hb3) not_false
                have HB3 := Lib.hid hB3
                clear hF3 hB3 hb3 hx he hFJ2
                go_wp2
                go_roundw
                case rel => exact ⟨j + 1, by omega, by go_num, HFI.out.then_ HF3.out, Nat.lt_of_lt_of_le hzi HF3.out.size, HF3.out.cell z0 nco', HF3.out.cell z1 nco', HF3.out.cell z2 nco', HF3.out.cell z3 nco', HF3.out.cell z4 nco', ⟨xi, j, HB3.out⟩, HFJ⟩
                case measure => simp [intOf]; omega
              · have hFJ2 := HBJ.out he
                have he2 : eB = opErr U ⟨k7, d7, a7, b7, c7, n7, g7⟩ := by rw [HB2.out, hFJ2, if_pos he]
                exact ⟨rfl, outP_died ((HBD.out (by rw [he2]; exact he)).trans he2) he ⟨_, _, rfl⟩, HFR.out.then_ (HFI.out.then_ (((frS (i := 7) (u := .int .i64 j) (Fr.refl _ _)).alloc _).then_ (Fr.of_below hb3)))⟩
            · obtain rfl : j = nn := by omega
              have hF0 := firstE_end (opErr U) bops j (by rw [← HEN.out]; exact Nat.le_refl _) _ hFJ.out
              have he0 : eB = edErr U ⟨ek, ea, et, el⟩ := by rw [HB2.out, hF0, if_neg (fun h => h rfl)]
              have HE0 := Lib.hid he0
              clear he0 hF0 hFJ
              go_wp2_with fail
              refine (edE_any (U := U) (Av := Av) (cv := cv) (Ab := some ⟨g, o, none⟩) (cb := cb) ⟨ek, ea, et, el⟩ (Ck.of (x := xi) (y := (j : Int)) (HBI.out.set_ 7 (.int .i64 j))) (CkP.of (Av := Av) (U := U) (cv := cv) (Ab := some ⟨g, o, none⟩) (cb := cb) (x := xi) (y := (j : Int)) (HBI.out.set_ 7 (.int .i64 j))) g2).mono ?_
              rintro x w3 ⟨hx, hb3⟩
              rcases outP_cases hx with ⟨he, rfl⟩ | ⟨he, b0, a0, rfl⟩
              · have hFN := HNX.out (HE0.out.trans he)
                have HFN := Lib.hid hFN
                have hF3 : Fr (fun b => b = c) wr w3 := (frS (i := 7) (u := .int .i64 j) (Fr.refl _ _)).then_ (Fr.of_below hb3)
                have t0 := hF3.cell z0 nco'
                have HF3 := Lib.hid hF3
                have hB3 := Blk.fr (M := fun _ => False) (HBI.out.set_ 7 (.int .i64 j)) (Fr.of_below hb3) not_false
                have HB3 := Lib.hid hB3
                clear hF3 hB3 hb3 hx he hFN
                go_wp2
                go_roundw
                case rel => exact ⟨k + 1, by omega, by rw [HS1.out]; go_num, by go_num, (HFR.out.then_ HFI.out).then_ HF3.out, HF3.out.cell (HFI.out.cell hc5 nc') nc', ⟨xi, j, HB3.out⟩, Lib.hid ⟨HFN.out, by rw [HS1.out]; have := HSL.out; omega⟩⟩
                case measure => simp [intOf]; omega
              · exact ⟨rfl, outP_died ((HBD.out (by rw [HE0.out]; exact he)).trans HE0.out) he ⟨_, _, rfl⟩, HFR.out.then_ (HFI.out.then_ ((frS (i := 7) (u := .int .i64 j) (Fr.refl _ _)).then_ (Fr.of_below hb3)))⟩
        · have dn : decide ((nn : Int) ≤ 400) = false := by simp; omega
          have HB2 : Hid (eB = 3) := Lib.hid (by rw [HBE.out, if_neg (fun h => h (.inr ⟨ct0, ct1⟩)), if_pos (by omega)])
          clear HBE
          go_wp2
          go_region
          go_wp2_with (first
              | (go_at_call 91; (with_reducible refine (must_ok _ _ _).mono ?_); rintro x w3 ⟨rfl, rfl⟩)
              | (go_at_call 70; refine (within_yes _ _ ct0 ct1 _).mono ?_; rintro x w3 ⟨rfl, rfl⟩)
              | (go_at_call 91; (with_reducible refine (must_bad (c := c) _ _ ?rd).mono ?_); (case rd => exact CkP.of (Av := Av) (U := U) (cv := cv) (Ab := some ⟨g, o, none⟩) (cb := cb) (x := (k : Int)) (y := (nn : Int)) (((HBB.out.set_ 6 (.int .i64 k)).set_ 7 (.int .i64 nn)).alloc _)); rintro x w3 ⟨⟨b0, a0, rfl⟩, hb3⟩; have HB3 := Lib.hid hb3; clear hb3))
          refine ⟨rfl, outP_died ((HBD.out (by rw [HB2.out]; decide)).trans HB2.out) (by decide) ⟨_, _, rfl⟩, HFR.out.then_ (Fr.then_ ?_ (Fr.of_below HB3.out))⟩
          (repeat' (first | with_reducible refine Fr.drew ?_ | with_reducible refine Fr.drewN ?_ _ | with_reducible refine Fr.alloc ?_ _ | with_reducible refine frS ?_ | with_reducible exact Fr.refl _ _))
      · have hctb : (ct == -1) = false := by simpa using hct1
        have HX := Lib.hid hct2
        have HB2 : Hid (eB = 2) := Lib.hid (by rw [HBE.out, if_pos (fun h => h.elim hct1 hct2)])
        clear HBE hct1 hct2
        go_wp2
        go_region
        go_wp2_with (first
            | (go_at_call 70; refine (within_no _ _ HX.out _).mono ?_; rintro x w3 ⟨rfl, rfl⟩)
            | (go_at_call 91; (with_reducible refine (must_ok _ _ _).mono ?_); rintro x w3 ⟨rfl, rfl⟩)
            | (go_at_call 91; (with_reducible refine (must_bad (c := c) _ _ ?rd).mono ?_); (case rd => exact CkP.of (Av := Av) (U := U) (cv := cv) (Ab := some ⟨g, o, none⟩) (cb := cb) (x := (k : Int)) (y := (nn : Int)) (((HBB.out.set_ 6 (.int .i64 k)).set_ 7 (.int .i64 nn)).alloc _)); rintro x w3 ⟨⟨b0, a0, rfl⟩, hb3⟩; have HB3 := Lib.hid hb3; clear hb3))
        refine ⟨rfl, outP_died ((HBD.out (by rw [HB2.out]; decide)).trans HB2.out) (by decide) ⟨_, _, rfl⟩, HFR.out.then_ (Fr.then_ ?_ (Fr.of_below HB3.out))⟩
        (repeat' (first | with_reducible refine Fr.drew ?_ | with_reducible refine Fr.drewN ?_ _ | with_reducible refine Fr.alloc ?_ _ | with_reducible refine frS ?_ | with_reducible exact Fr.refl _ _))
    · have hkk : U.blocks.take k = U.blocks := List.take_of_length_le (by omega)
      have hF0 := firstE_end (blErr U) U.blocks k (by omega) _ hFE.out.1
      have hsl := hFE.out.2
      rw [hkk] at hsl
      rw [hkk]
      have hT : tailErr U = if 20000 < opsSum U.blocks then 3 else 0 := by unfold tailErr; rw [hF0, if_neg (fun h => h rfl)]
      obtain ⟨sm, hsm⟩ : ∃ sm, sm = opsSum U.blocks := ⟨_, rfl⟩
      rw [← hsm] at hsl hT
      rw [← hsm]
      have lcr : c < wo.heap.size := B.lt
      have e6 : wo.cell? ⟨c, 6, none⟩ = some (.int .i64 x) := (B.cell 6).trans rfl
      have e7 : wo.cell? ⟨c, 7, none⟩ = some (.int .i64 y) := (B.cell 7).trans rfl
      have f6 := B.frozen 6
      have f7 := B.frozen 7
      have HFR := Lib.hid hf
      have HT := Lib.hid hT
      have HBB := Lib.hid B
      clear hkk hsm B hf hF0 hT hFE
      by_cases hsum : sm ≤ 20000
      · have ds : decide ((sm : Int) ≤ 20000) = true := by simp; omega
        go_wp2_with (first
          | (go_at_call 91; (with_reducible refine (must_ok _ _ _).mono ?_); rintro x w3 ⟨rfl, rfl⟩))
        first | go_end0 | refine bodyPost_ret (results_none rfl _ _ _) rfl ?_
        refine ⟨outP_zero (by rw [HT.out, if_neg (by omega)]) rfl, HFR.out.then_ ?_⟩
        (repeat' (first | with_reducible refine Fr.drew ?_ | with_reducible refine Fr.drewN ?_ _ | with_reducible refine Fr.alloc ?_ _ | with_reducible refine frS ?_ | with_reducible exact Fr.refl _ _))
      · have ds : decide ((sm : Int) ≤ 20000) = false := by simp; omega
        go_wp2_with (first
          | (go_at_call 91; (with_reducible refine (must_ok _ _ _).mono ?_); rintro x w3 ⟨rfl, rfl⟩)
          | (go_at_call 91; (with_reducible refine (must_bad (c := c) _ _ ?rd).mono ?_); (case rd => exact CkP.of (Av := Av) (U := U) (cv := cv) (Ab := Ab) (cb := cb) (x := 0) (y := 0) ((HBB.out.set_ 6 (.int .i64 0)).set_ 7 (.int .i64 0))); rintro x w3 ⟨⟨b0, a0, rfl⟩, hb3⟩; have HB3 := Lib.hid hb3; clear hb3))
        refine ⟨rfl, outP_died (e' := 3) (by rw [HT.out, if_pos (by omega)]) (by decide) ⟨_, _, rfl⟩, HFR.out.then_ (Fr.then_ ?_ (Fr.of_below HB3.out))⟩
        (repeat' (first | with_reducible refine Fr.drew ?_ | with_reducible refine Fr.drewN ?_ _ | with_reducible refine Fr.alloc ?_ _ | with_reducible refine frS ?_ | with_reducible exact Fr.refl _ _))
end Go.Proofs.YtfkjkdoloamakaaDoor

