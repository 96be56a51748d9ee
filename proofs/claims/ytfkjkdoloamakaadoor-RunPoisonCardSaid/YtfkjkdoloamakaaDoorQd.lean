/- What Copy of package code leaves, its walk. -/
import Derived.Test.YtfkjkdoloamakaaDoorMe
namespace Go.Proofs.YtfkjkdoloamakaaDoor
open Go.RowKit
set_option linter.unusedVariables false
set_option linter.unusedSimpArgs false
variable {w : World} {U : UnS} {Av Ab : Option Addr} {cv cb : Nat} {F : Nat → Prop}
theorem Row.only {N : Nat → Prop} {g n c size : Nat} {xs : List Value} (h : Row N w (.slice (some ⟨g, 0, none⟩) n c) n size xs) : Row (fun b => b = g) w (.slice (some ⟨g, 0, none⟩) n c) n size xs := by
  obtain ⟨h0, A, c', e, hc, hm, h1⟩ := h
  refine ⟨h0, A, c', e, hc, hm, fun hp => ?_⟩
  obtain ⟨g', o', e', _, hlt, hh⟩ := h1 hp
  refine ⟨g', o', e', ?_, hlt, hh⟩
  rw [e'] at e
  injection e with e1
  injection e1 with e1
  injection e1 with e1
  exact e1.symm
theorem own_frozen {base g n c size : Nat} {e : TypeId} {xs : List Value} (h : w.ownsRow base e size (.slice (some ⟨g, 0, none⟩) n c) n xs) (j : Nat) : w.frozen? ⟨g, j, none⟩ = false := by
  rcases h.2 with ⟨h0, _⟩ | ⟨g', cap, cur, e1, _, hc, _⟩
  · cases h0
  · injection e1 with e1
    injection e1 with e1
    injection e1 with e1
    subst e1
    exact Blk.frozen (t := e) (cs := cur) hc j
theorem own_base {base g n c size : Nat} {e : TypeId} {xs : List Value} (h : w.ownsRow base e size (.slice (some ⟨g, 0, none⟩) n c) n xs) : base ≤ g ∧ g < w.heap.size := by
  rcases h.2 with ⟨h0, _⟩ | ⟨g', cap, cur, e1, hb, hc, _⟩
  · cases h0
  · injection e1 with e1
    injection e1 with e1
    injection e1 with e1
    subst e1
    exact ⟨hb, Blk.lt (t := e) (cs := cur) hc⟩
theorem frozen_set {W : World} {p a : Addr} {v : Value} {b : Bool} (h : W.frozen? a = b) : (W.setCell p v).frozen? a = b := by simp [go_sem, h]
set_option maxRecDepth 100000 in
set_option maxHeartbeats 16000000 in
theorem copy_ok (hs : Row F w (.slice Av U.sizes.length cv) U.sizes.length 1 (numV U.sizes)) (hr : RdBlocks F w (.slice Ab U.blocks.length cb) U.blocks) (hF : ∀ g, F g → g < w.heap.size) (h0 : 0 < U.blocks.length) (h1 : U.blocks.length ≤ 2000) (hz : U.sizes.length ≤ 16) (hlen : ∀ b ∈ U.blocks, b.ops.length ≤ 400) :
    Calls Tryd.prog 96 #[unV U Av cv Ab cb] w fun e w' => ∃ A c g c2, e = .returned (unV U A c (some ⟨g, 0, none⟩) c2) ∧ RdBlocks (fun b => w.heap.size ≤ b) w' (.slice (some ⟨g, 0, none⟩) U.blocks.length c2) U.blocks ∧ Below w.heap.size w w' := by
  obtain ⟨vs, hl, hR, hO⟩ := hr
  have hone : ∀ v ∈ vs, v.oneCell' = true := by
    intro v hv
    obtain ⟨i, hi, rfl⟩ := List.getElem_of_mem hv
    obtain ⟨_, A, c, e, _⟩ := hO i (by rw [← hl]; exact hi)
    rw [List.getD_eq_getElem?_getD, List.getElem?_eq_getElem hi] at e
    simp only [Option.getD_some] at e
    rw [e]; rfl
  have H1 := Lib.hid (fun (W : World) (hb : Below w.heap.size w W) => clone_sizes hs hz hb)
  have H2 := Lib.hid (fun (W : World) (hb : Below w.heap.size w W) => clone_blocks hl hR hone h0 h1 hb)
  have HO := Lib.hid hO
  have HF := Lib.hid hF
  have HL := Lib.hid hlen
  have HLV := Lib.hid hl
  clear hs hR hO hF hlen hone hl
  unfold unV
  go_enter Tryd.func96, Tryd.ntmps96
  go_wp2
  go_region_with (first
    | (go_at_call 66; refine (H1.out _ ?zx).mono ?_; (case zx => (first | assumption | (repeat' (first | with_reducible exact Below.refl _ _ | with_reducible refine Below.drew ?_ | with_reducible refine Below.alloc ?_ ?_ _ | with_reducible refine Below.setCell ?_ ?_ _ | exact Nat.le_refl _ | assumption | (simp; done))))); rintro e w2 ⟨A1, c1, rfl, h1, hb1⟩; have hza := hb1.size; (try simp only [World.size_alloc, World.size_drew] at hza); have k0a : w2.cell? ⟨w.heap.size, 0, none⟩ = some (.slice Av U.sizes.length cv) := (hb1.cell (p := ⟨w.heap.size, 0, none⟩) ?za).trans ?zb; (case za => first | (simp; done) | (simp; omega) | omega); (case zb => first | assumption | (simp [go_sem]; done)); have f0a : w2.frozen? ⟨w.heap.size, 0, none⟩ = false := (hb1.frozen (p := ⟨w.heap.size, 0, none⟩) ?za).trans ?zb; (case za => first | (simp; done) | (simp; omega) | omega); (case zb => first | assumption | (simp [go_sem]; done)); have k5a : w2.cell? ⟨w.heap.size, 5, none⟩ = some (.slice Ab U.blocks.length cb) := (hb1.cell (p := ⟨w.heap.size, 5, none⟩) ?za).trans ?zb; (case za => first | (simp; done) | (simp; omega) | omega); (case zb => first | assumption | (simp [go_sem]; done)); have f5a : w2.frozen? ⟨w.heap.size, 5, none⟩ = false := (hb1.frozen (p := ⟨w.heap.size, 5, none⟩) ?za).trans ?zb; (case za => first | (simp; done) | (simp; omega) | omega); (case zb => first | assumption | (simp [go_sem]; done)); have bwa : Below w.heap.size w w2 := Below.trans ?za (hb1.mono ?zb); (case za => (first | assumption | (repeat' (first | with_reducible exact Below.refl _ _ | with_reducible refine Below.drew ?_ | with_reducible refine Below.alloc ?_ ?_ _ | with_reducible refine Below.setCell ?_ ?_ _ | exact Nat.le_refl _ | assumption | (simp; done))))); (case zb => first | (simp; done) | (simp; omega) | omega); have HO1 := Lib.hid h1; have HB1 := Lib.hid hb1; clear h1 hb1)
    | (go_at_call 113; refine (H2.out _ ?zx).mono ?_; (case zx => (first | assumption | (repeat' (first | with_reducible exact Below.refl _ _ | with_reducible refine Below.drew ?_ | with_reducible refine Below.alloc ?_ ?_ _ | with_reducible refine Below.setCell ?_ ?_ _ | exact Nat.le_refl _ | assumption | (simp; done))))); rintro e w3 ⟨g2, c2, rfl, h2, hb2⟩; have hzb := hb2.size; (try simp only [World.size_alloc, World.size_drew] at hzb); have k0b : w3.cell? ⟨w.heap.size, 0, none⟩ = some (.slice Av U.sizes.length cv) := (hb2.cell (p := ⟨w.heap.size, 0, none⟩) ?za).trans ?zb; (case za => first | (simp; done) | (simp; omega) | omega); (case zb => first | assumption | (simp [go_sem]; done)); have f0b : w3.frozen? ⟨w.heap.size, 0, none⟩ = false := (hb2.frozen (p := ⟨w.heap.size, 0, none⟩) ?za).trans ?zb; (case za => first | (simp; done) | (simp; omega) | omega); (case zb => first | assumption | (simp [go_sem]; done)); have k5b : w3.cell? ⟨w.heap.size, 5, none⟩ = some (.slice Ab U.blocks.length cb) := (hb2.cell (p := ⟨w.heap.size, 5, none⟩) ?za).trans ?zb; (case za => first | (simp; done) | (simp; omega) | omega); (case zb => first | assumption | (simp [go_sem]; done)); have f5b : w3.frozen? ⟨w.heap.size, 5, none⟩ = false := (hb2.frozen (p := ⟨w.heap.size, 5, none⟩) ?za).trans ?zb; (case za => first | (simp; done) | (simp; omega) | omega); (case zb => first | assumption | (simp [go_sem]; done)); have bwb : Below w.heap.size w w3 := Below.trans ?za (hb2.mono ?zb); (case za => (first | assumption | (repeat' (first | with_reducible exact Below.refl _ _ | with_reducible refine Below.drew ?_ | with_reducible refine Below.alloc ?_ ?_ _ | with_reducible refine Below.setCell ?_ ?_ _ | exact Nat.le_refl _ | assumption | (simp; done))))); (case zb => first | (simp; done) | (simp; omega) | omega); have HO2 := Lib.hid h2; have HB2 := Lib.hid hb2; clear h2 hb2))
  all_goals
    obtain ⟨ga, gb⟩ := own_base HO2.out
    have hgB : w.heap.size + 1 < g2 := by omega
    have bw0 : Below (w.heap.size + 1 + 1) ((w.alloc (.cells #[.slice Av U.sizes.length cv, .int .i64 U.params, .int .i64 U.regs, .int .i64 U.code, .int .i64 U.spill, .slice Ab U.blocks.length cb] 25)).alloc (.cells #[.slice none 0 0, .int .i64 0, .int .i64 0, .int .i64 0, .int .i64 0, .slice none 0 0] 25)).drew w3 := Below.trans (Below.mono (B' := w.heap.size + 1 + 1) HB1.out (by simp only [World.size_alloc, World.size_drew]; omega)) (HB2.out.mono (by omega))
    obtain ⟨wl, hwl⟩ : ∃ wl, wl = ((w3.setCell ⟨w.heap.size, 0, none⟩ (.slice A1 U.sizes.length c1)).setCell ⟨w.heap.size, 5, none⟩ (.slice (some ⟨g2, 0, none⟩) U.blocks.length c2)) := ⟨_, rfl⟩
    have p1 : wl.cell? ⟨w.heap.size, 1, none⟩ = some (.int .i64 U.params) := by rw [hwl, cell_off (by decide), cell_off (by decide)]; exact (bw0.cell (p := ⟨w.heap.size, 1, none⟩) (by simp; omega)).trans (by simp [go_sem])
    have p2 : wl.cell? ⟨w.heap.size, 2, none⟩ = some (.int .i64 U.regs) := by rw [hwl, cell_off (by decide), cell_off (by decide)]; exact (bw0.cell (p := ⟨w.heap.size, 2, none⟩) (by simp; omega)).trans (by simp [go_sem])
    have p3 : wl.cell? ⟨w.heap.size, 3, none⟩ = some (.int .i64 U.code) := by rw [hwl, cell_off (by decide), cell_off (by decide)]; exact (bw0.cell (p := ⟨w.heap.size, 3, none⟩) (by simp; omega)).trans (by simp [go_sem])
    have p4 : wl.cell? ⟨w.heap.size, 4, none⟩ = some (.int .i64 U.spill) := by rw [hwl, cell_off (by decide), cell_off (by decide)]; exact (bw0.cell (p := ⟨w.heap.size, 4, none⟩) (by simp; omega)).trans (by simp [go_sem])
    have p0 : wl.cell? ⟨w.heap.size, 0, none⟩ = some (.slice A1 U.sizes.length c1) := by rw [hwl, cell_off (by decide)]; exact cell_put k0b
    have p5 : wl.cell? ⟨w.heap.size, 5, none⟩ = some (.slice (some ⟨g2, 0, none⟩) U.blocks.length c2) := by rw [hwl]; exact cell_put ((cell_off (by decide)).trans k5b)
    have r0 : wl.cell? ⟨w.heap.size + 1, 0, none⟩ = some (.slice none 0 0) := by rw [hwl, World.cell?_setCell_far _ _ _ _ (by simp), World.cell?_setCell_far _ _ _ _ (by simp)]; exact (bw0.cell (p := ⟨w.heap.size + 1, 0, none⟩) (by simp)).trans (by simp [go_sem])
    have q0 : wl.frozen? ⟨w.heap.size + 1, 0, none⟩ = false := by rw [hwl]; exact frozen_set (frozen_set ((bw0.frozen (p := ⟨w.heap.size + 1, 0, none⟩) (by simp)).trans (by simp [go_sem])))
    have r1 : wl.cell? ⟨w.heap.size + 1, 1, none⟩ = some (.int .i64 0) := by rw [hwl, World.cell?_setCell_far _ _ _ _ (by simp), World.cell?_setCell_far _ _ _ _ (by simp)]; exact (bw0.cell (p := ⟨w.heap.size + 1, 1, none⟩) (by simp)).trans (by simp [go_sem])
    have q1 : wl.frozen? ⟨w.heap.size + 1, 1, none⟩ = false := by rw [hwl]; exact frozen_set (frozen_set ((bw0.frozen (p := ⟨w.heap.size + 1, 1, none⟩) (by simp)).trans (by simp [go_sem])))
    have r2 : wl.cell? ⟨w.heap.size + 1, 2, none⟩ = some (.int .i64 0) := by rw [hwl, World.cell?_setCell_far _ _ _ _ (by simp), World.cell?_setCell_far _ _ _ _ (by simp)]; exact (bw0.cell (p := ⟨w.heap.size + 1, 2, none⟩) (by simp)).trans (by simp [go_sem])
    have q2 : wl.frozen? ⟨w.heap.size + 1, 2, none⟩ = false := by rw [hwl]; exact frozen_set (frozen_set ((bw0.frozen (p := ⟨w.heap.size + 1, 2, none⟩) (by simp)).trans (by simp [go_sem])))
    have r3 : wl.cell? ⟨w.heap.size + 1, 3, none⟩ = some (.int .i64 0) := by rw [hwl, World.cell?_setCell_far _ _ _ _ (by simp), World.cell?_setCell_far _ _ _ _ (by simp)]; exact (bw0.cell (p := ⟨w.heap.size + 1, 3, none⟩) (by simp)).trans (by simp [go_sem])
    have q3 : wl.frozen? ⟨w.heap.size + 1, 3, none⟩ = false := by rw [hwl]; exact frozen_set (frozen_set ((bw0.frozen (p := ⟨w.heap.size + 1, 3, none⟩) (by simp)).trans (by simp [go_sem])))
    have r4 : wl.cell? ⟨w.heap.size + 1, 4, none⟩ = some (.int .i64 0) := by rw [hwl, World.cell?_setCell_far _ _ _ _ (by simp), World.cell?_setCell_far _ _ _ _ (by simp)]; exact (bw0.cell (p := ⟨w.heap.size + 1, 4, none⟩) (by simp)).trans (by simp [go_sem])
    have q4 : wl.frozen? ⟨w.heap.size + 1, 4, none⟩ = false := by rw [hwl]; exact frozen_set (frozen_set ((bw0.frozen (p := ⟨w.heap.size + 1, 4, none⟩) (by simp)).trans (by simp [go_sem])))
    have r5 : wl.cell? ⟨w.heap.size + 1, 5, none⟩ = some (.slice none 0 0) := by rw [hwl, World.cell?_setCell_far _ _ _ _ (by simp), World.cell?_setCell_far _ _ _ _ (by simp)]; exact (bw0.cell (p := ⟨w.heap.size + 1, 5, none⟩) (by simp)).trans (by simp [go_sem])
    have q5 : wl.frozen? ⟨w.heap.size + 1, 5, none⟩ = false := by rw [hwl]; exact frozen_set (frozen_set ((bw0.frozen (p := ⟨w.heap.size + 1, 5, none⟩) (by simp)).trans (by simp [go_sem])))
    have lwl : wl.heap.size = w3.heap.size := by rw [hwl]; simp
    have hfl : Fr (fun b => b = w.heap.size) w3 wl := by rw [hwl]; exact Fr.two _ _ _ _ _ _
    have zl : ∀ j, wl.frozen? ⟨g2, j, none⟩ = false := fun j => by rw [hwl]; exact frozen_set (frozen_set (own_frozen HO2.out j))
    have hbl : Below w.heap.size w wl := by rw [hwl]; exact (bwb.setCell (Nat.le_refl _) _).setCell (Nat.le_refl _) _
    have hhalf : Half F (fun b => w.heap.size + 1 < b ∧ b ≠ g2) wl g2 c2 0 U.blocks := (Half.start HLV.out (Row.only (Row.of_own (N := fun _ => True) HO2.out (fun _ _ => trivial) (by decide))) (fun i hi => (HO.out i hi).fr (M := fun _ => False) (Fr.of_below bwb) (fun _ _ => not_false))).fr hfl (fun b hb e => by have := HF.out b hb; have e' : b = w.heap.size := e; omega) (fun b hb e => by have e' : b = w.heap.size := e; omega) (fun e => by have e' : g2 = w.heap.size := e; omega)
    rw [← hwl]
    have HW := Lib.hid hwl
    have HH := Lib.hid hhalf
    have HBL := Lib.hid hbl
    have HZL := Lib.hid zl
    clear hwl hhalf hbl zl k0a k5a k0b k5b f0a f5a f0b f5b bwa bwb bw0 hfl
    go_wp2
    go_loopw [15] (fun i wr => ∃ k : Nat, k ≤ U.blocks.length ∧ i = .int .i64 k ∧ Fr (fun b => b = g2) wl wr ∧ Half F (fun b => w.heap.size + 1 < b ∧ b ≠ g2) wr g2 c2 k U.blocks ∧ ∀ j, wr.frozen? ⟨g2, j, none⟩ = false) (fun i _ => U.blocks.length - (intOf i).toNat)
    case atStart =>
      refine ⟨0, Nat.zero_le _, rfl, ?_, ?_, ?_⟩
      · exact Fr.refl _ _
      · exact HH.out
      · exact HZL.out
    case round =>
      obtain ⟨k, hk, rfl, hf, hh, hfz⟩ := hrel
      have ngB : g2 ≠ w.heap.size := by omega
      have ngB1 : g2 ≠ w.heap.size + 1 := by omega
      have p5' := hf.cell p5 (fun e => ngB e.symm)
      by_cases hlt : k < U.blocks.length
      · obtain ⟨v, hcv, hrow⟩ := hh.at_ hlt
        obtain ⟨A, cc, rfl, hA, hAc⟩ := row_read hrow
        have hnl : U.blocks[k].ops.length ≤ 400 := HL.out _ (List.getElem_mem hlt)
        obtain ⟨nn, hnn⟩ : ∃ nn, nn = U.blocks[k].ops.length := ⟨_, rfl⟩
        rw [← hnn] at hcv hA hnl hrow
        have hfk := hfz (k * 6)
        have HNN := Lib.hid hnn
        have HF2 := Lib.hid hf
        have HHF := Lib.hid hh
        have HFZ := Lib.hid hfz
        have HA := Lib.hid hA
        have HAC := Lib.hid hAc
        clear hnn hf hh hfz hA hAc hrow
        go_wp2
        go_region_with (first
          | (go_at_call 114; refine (clone_op A nn cc (opsC U.blocks[k].ops) _ HA.out ?zl ?zm ?zb ?zc (opsC_one _)).mono ?_; (case zl => rw [HNN.out]; exact opsC_length _); (case zm => unfold maxLen; omega); (case zb => omega); (case zc => exact HAC.out); rintro e w5 ⟨v5, rfl, h5, hb5⟩; obtain ⟨A5, c5, rfl⟩ := own_shape h5; have j1 : w5.cell? ⟨g2, k * 6, none⟩ = some (.slice A nn cc) := (hb5.cell (p := ⟨g2, k * 6, none⟩) ?za).trans hcv; (case za => exact lt_cell hcv); have j2 : w5.frozen? ⟨g2, k * 6, none⟩ = false := (hb5.frozen (p := ⟨g2, k * 6, none⟩) ?za).trans hfk; (case za => exact lt_cell hcv); have j3 : w5.cell? ⟨w.heap.size, 5, none⟩ = some (.slice (some ⟨g2, 0, none⟩) U.blocks.length c2) := (hb5.cell (p := ⟨w.heap.size, 5, none⟩) ?za).trans p5'; (case za => exact lt_cell p5'); have H5 := Lib.hid h5; have HB5 := Lib.hid hb5; clear h5 hb5))
        all_goals
          have hb5 : Below wr.heap.size wr w5 := ⟨HB5.out.os, HB5.out.tape, HB5.out.output, HB5.out.size, HB5.out.block⟩
          have hrow5 : Row (fun b => w.heap.size + 1 < b ∧ b ≠ g2) w5 (.slice A5 nn c5) U.blocks[k].ops.length 7 (opsC U.blocks[k].ops) := by
            rw [← HNN.out]
            exact Row.of_own H5.out (fun b hb => by have h' : wr.heap.size ≤ b := hb; have := HF2.out.size; constructor <;> omega) (by decide)
          have hnx := Half.next (HHF.out.fr (M := fun _ => False) (Fr.of_below hb5) (fun _ _ => not_false) (fun _ _ => not_false) not_false) hlt hrow5 (fun h => h.2 rfl) (fun h => by have := HF.out _ h; omega)
          have HNX := Lib.hid hnx
          have HB5' := Lib.hid hb5
          clear hb5 hrow5 hnx
          go_wp2
          go_roundw
          case rel => exact ⟨k + 1, by omega, by go_num, (HF2.out.then_ (Fr.of_below HB5'.out)).then_ (Fr.one _ _ _ _), HNX.out, fun j => frozen_set ((HB5'.out.frozen (p := ⟨g2, j, none⟩) (lt_cell hcv)).trans (HFZ.out j))⟩
          case measure => simp [intOf]; omega
      · obtain rfl : k = U.blocks.length := by omega
        have s0 := hf.cell p0 (fun e => ngB e.symm)
        have s1 := hf.cell p1 (fun e => ngB e.symm)
        have s2 := hf.cell p2 (fun e => ngB e.symm)
        have s3 := hf.cell p3 (fun e => ngB e.symm)
        have s4 := hf.cell p4 (fun e => ngB e.symm)
        have t0 := hf.cell r0 (fun e => ngB1 e.symm)
        have t1 := hf.cell r1 (fun e => ngB1 e.symm)
        have t2 := hf.cell r2 (fun e => ngB1 e.symm)
        have t3 := hf.cell r3 (fun e => ngB1 e.symm)
        have t4 := hf.cell r4 (fun e => ngB1 e.symm)
        have t5 := hf.cell r5 (fun e => ngB1 e.symm)
        have u0 := frz hf q0 (lt_cell r0) (fun e => ngB1 e.symm)
        have u1 := frz hf q1 (lt_cell r1) (fun e => ngB1 e.symm)
        have u2 := frz hf q2 (lt_cell r2) (fun e => ngB1 e.symm)
        have u3 := frz hf q3 (lt_cell r3) (fun e => ngB1 e.symm)
        have u4 := frz hf q4 (lt_cell r4) (fun e => ngB1 e.symm)
        have u5 := frz hf q5 (lt_cell r5) (fun e => ngB1 e.symm)
        have hD : RdBlocks (fun b => w.heap.size ≤ b ∧ b ≠ w.heap.size + 1) wr (.slice (some ⟨g2, 0, none⟩) U.blocks.length c2) U.blocks := hh.done.mono (fun b hb _ => by rcases hb with hb | hb <;> (constructor <;> omega))
        have hbr : Below w.heap.size w wr := HBL.out.trans (hf.below (fun b hb => by have e : b = g2 := hb; omega) (by have := HBL.out.size; exact this))
        have HD := Lib.hid hD
        have HBR := Lib.hid hbr
        clear hD hbr hf hh hfz
        go_wp2
        refine bodyPost_ret (v := unV U A1 c1 (some ⟨g2, 0, none⟩) c2) (by simp [unV, results, Tryd.results96, go_sem, *]) rfl ⟨_, _, _, _, rfl, ?_, ?_⟩
        · refine (HD.out.fr (M := fun b => b = w.heap.size + 1) ?_ (fun b hb e => hb.2 e)).mono (fun b hb _ => hb.1)
          repeat' (first | with_reducible refine frS ?_ | with_reducible exact Fr.refl _ _)
        · repeat' (first | with_reducible refine Below.setCell ?_ ?_ _ | with_reducible exact HBR.out | with_reducible exact Nat.le_succ _)
end Go.Proofs.YtfkjkdoloamakaaDoor
