/- Moved, of the laws of layer 7, walked: the unit with its blocks and registers moved. -/
import Derived.Test.YtfkjkdoloamakaaDoorVe
namespace Go.Proofs.YtfkjkdoloamakaaDoor
open Go.RowKit
set_option linter.unusedVariables false
set_option linter.unusedSimpArgs false
variable {w : World} {F F2 : Nat → Prop} {S : UnS} {A0 A02 : Option Addr} {c0 c02 : Nat}

set_option maxRecDepth 100000 in
set_option maxHeartbeats 16000000 in
theorem moved_any (hu : UnIn F w S A0 c0 A02 c02) (hS : UnFine S) (z1 : S.sizes.length ≤ 17) (z2 : S.blocks.length ≤ 200) (z3 : opsN S.blocks ≤ 4000)
    (told : List Int) (At : Option Addr) (ct : Nat) (hT : Row F2 w (.slice At told.length ct) told.length 1 (told.map (Value.int .u8))) (ht : ∀ x ∈ told, 0 ≤ x ∧ x ≤ 255) :
    Calls Tryd.prog 19 #[unV S A0 c0 A02 c02, .slice At told.length ct] w fun x w' => ∃ Y B R A c A2 c2 v1 v2, x = .returned (.tuple #[unV Y A c A2 c2, v1, v2]) ∧ Mov B R S Y ∧ Y.blocks.length = S.blocks.length ∧ UnIn (fun g => g < w'.heap.size) w' Y A c A2 c2 ∧ Below w.heap.size w w' := by
  obtain ⟨W0, hW0⟩ : ∃ W0, W0 = (w.alloc (.cells (unC S A0 c0 A02 c02) 25)).alloc (.cells #[.slice none 0 0, .int .i64 0, .int .i64 0, .int .i64 0, .int .i64 0, .slice none 0 0] 25) := ⟨_, rfl⟩
  have hb0 : Below w.heap.size w W0 := by rw [hW0]; exact ((Below.refl _ _).alloc (Nat.le_refl _) _).alloc (by simp) _
  have hb2 : Blk W0 w.heap.size 25 #[.slice A0 S.sizes.length c0, .int .i64 S.params, .int .i64 S.regs, .int .i64 S.code, .int .i64 S.spill, .slice A02 S.blocks.length c02] := by rw [hW0]; exact (blk_new w rfl _ _).alloc _
  have hb4 : Blk W0 (w.heap.size + 1) 25 #[.slice none 0 0, .int .i64 0, .int .i64 0, .int .i64 0, .int .i64 0, .slice none 0 0] := by rw [hW0]; exact blk_new _ (by simp) _ _
  have hz0 : W0.heap.size = w.heap.size + 2 := by rw [hW0]; simp
  have q1 : W0.cell? ⟨w.heap.size, 1, none⟩ = some (.int .i64 S.params) := (hb2.cell 1).trans rfl
  have q2 : W0.cell? ⟨w.heap.size, 2, none⟩ = some (.int .i64 S.regs) := (hb2.cell 2).trans rfl
  have q5 : W0.cell? ⟨w.heap.size, 5, none⟩ = some (.slice A02 S.blocks.length c02) := (hb2.cell 5).trans rfl
  have hnb := hS.nb
  have hr1 := hS.r1
  have hp1 := hS.p1
  have hp3 := hS.p3
  have hr2 := hS.r2
  have hord : ∀ (first many : Int) (h0 : 0 ≤ first) (h1 : first ≤ many) (h2 : many ≤ 1000000) (w' : World) (hf : Fr (fun _ => False) W0 w'), Calls Tryd.prog 44 #[.int .i64 first, .int .i64 many, .slice At told.length ct] w' fun x w'' => ∃ l A c, x = .returned (.slice A l.length c) ∧ (Ord l many ∧ Stay l first) ∧ Row (fun g => g < w''.heap.size) w'' (.slice A l.length c) l.length 1 (numV l) ∧ Fr (fun _ => False) W0 w'' ∧ Fr (fun _ => False) w' w'' := fun first many h0 h1 h2 w' hf => by
    refine (order_any first many h0 h1 h2 told At ct (hT.fr ((Fr.of_below (M := fun _ => False) hb0).then_ hf) fun _ _ => not_false) ht).mono ?_
    rintro x w'' ⟨v, l, e, h1, h2, ho, hb⟩
    obtain ⟨A, c, rfl⟩ := own_shape ho
    exact ⟨l, A, c, e, ⟨h1, h2⟩, (Row.of_own (N := fun g => True) ho (fun _ _ => trivial) (by decide)).mono fun _ _ h => h, hf.then_ (Fr.of_below hb), Fr.of_below hb⟩
  have HOB := Lib.hid (hord 1 S.blocks.length (by omega) (by omega) (by omega))
  have HOR := Lib.hid (hord S.params S.regs hp1 hp3 (by omega))
  have HW0 := Lib.hid hW0
  have H0 := Lib.hid hb0
  have HB2 := Lib.hid hb2
  have HB4 := Lib.hid hb4
  have HU := Lib.hid hu
  have HS := Lib.hid hS
  clear hW0 hb0 hb2 hb4 hu hS hT ht hord
  unfold unV unC at *
  go_enter Tryd.func19, Tryd.ntmps19
  go_upto_region 1 with fail
  rw [← HW0.out]
  go_cut [7, 8] (fun v7 v8 wc => ∃ B AB cB R AR cR, v7 = .slice AB B.length cB ∧ v8 = .slice AR R.length cR ∧ (Ord B S.blocks.length ∧ Stay B 1) ∧ (Ord R S.regs ∧ Stay R S.params) ∧ Row (fun g => g < wc.heap.size) wc (.slice AB B.length cB) B.length 1 (numV B) ∧ Row (fun g => g < wc.heap.size) wc (.slice AR R.length cR) R.length 1 (numV R) ∧ Fr (fun _ => False) W0 wc)
  case first => as_aux_lemma =>
    go_region_held3 (fun w' => w'.cell? ⟨w.heap.size, 1, none⟩ = some (.int .i64 S.params) ∧ w'.cell? ⟨w.heap.size, 2, none⟩ = some (.int .i64 S.regs) ∧ w'.cell? ⟨w.heap.size, 5, none⟩ = some (.slice A02 S.blocks.length c02)) (first | exact ⟨q1, q2, q5⟩ | exact ⟨k1, k2, k5⟩ | (go_keep; done))
      (first
        | (go_at_call 44; (with_reducible refine (HOB.out _ ?f).mono ?_); (case f => first | exact HF.out.drewN _ | exact HF.out | exact (Fr.refl _ _).drewN _ | exact Fr.refl _ _); rintro x w2 ⟨B, AB, cB, rfl, hB, hrow, hf2, hf3⟩; have k1 : w2.cell? ⟨w.heap.size, 1, none⟩ = some (.int .i64 S.params) := hf2.cell q1 not_false; have k2 : w2.cell? ⟨w.heap.size, 2, none⟩ = some (.int .i64 S.regs) := hf2.cell q2 not_false; have k5 : w2.cell? ⟨w.heap.size, 5, none⟩ = some (.slice A02 S.blocks.length c02) := hf2.cell q5 not_false; have HF := Lib.hid hf2; have HBO := Lib.hid hB; have HRB := Lib.hid hrow; have HGB := Lib.hid hf3; clear hB hrow hf2 hf3)
        | (go_at_call 44; (with_reducible refine (HOR.out _ ?f).mono ?_); (case f => first | exact HF.out.drewN _ | exact HF.out | exact (Fr.refl _ _).drewN _ | exact Fr.refl _ _); rintro x w4 ⟨R, AR, cR, rfl, hR, hrow, hf2, hf3⟩; have k1 : w4.cell? ⟨w.heap.size, 1, none⟩ = some (.int .i64 S.params) := hf2.cell q1 not_false; have k2 : w4.cell? ⟨w.heap.size, 2, none⟩ = some (.int .i64 S.regs) := hf2.cell q2 not_false; have k5 : w4.cell? ⟨w.heap.size, 5, none⟩ = some (.slice A02 S.blocks.length c02) := hf2.cell q5 not_false; have HF := Lib.hid hf2; have HRO := Lib.hid hR; have HRR := Lib.hid hrow; have HGR := Lib.hid hf3; clear hR hrow hf2 hf3))
    all_goals
      go_wp2
      go_meet
      exact ⟨_, _, _, _, _, _, rfl, rfl, HBO.out, HRO.out, (by first | exact HRB.out | exact row_nx HRB.out (Fr.then_ ((Fr.refl _ _).drewN _) HGR.out) | exact row_nx HRB.out HGR.out), (by first | exact HRR.out | exact row_nx HRR.out (Fr.then_ ((Fr.refl _ _).drewN _) HGB.out) | exact row_nx HRR.out HGB.out), HF.out⟩
  case rest =>
    obtain ⟨B, AB, cB, R, AR, cR, rfl, rfl, ⟨hOB, hSB⟩, ⟨hOR, hSR⟩, hrB, hrR, hf0⟩ := hcut
    obtain ⟨wk, rfl⟩ : ∃ wk : World, wk = wc := ⟨_, rfl⟩
    have hBl : (B.length : Int) = S.blocks.length := hOB.len
    have hRl : (R.length : Int) = S.regs := hOR.len
    obtain ⟨gB, oB, rfl, _, lgB, hcB⟩ := ix_shape hrB (by omega)
    obtain ⟨gR, oR, rfl, _, lgR, hcR⟩ := ix_shape hrR (by omega)
    rw [hBl] at hcB
    rw [hRl] at hcR
    have hb2 := HB2.out.fr hf0 not_false
    have hb4 := HB4.out.fr hf0 not_false
    have lw : w.heap.size < wk.heap.size := hb2.lt
    have lw4 : w.heap.size + 1 < wk.heap.size := hb4.lt
    have y0 : wk.cell? ⟨w.heap.size, 0, none⟩ = some (.slice A0 S.sizes.length c0) := (hb2.cell 0).trans rfl
    have y1 : wk.cell? ⟨w.heap.size, 1, none⟩ = some (.int .i64 S.params) := (hb2.cell 1).trans rfl
    have y2 : wk.cell? ⟨w.heap.size, 2, none⟩ = some (.int .i64 S.regs) := (hb2.cell 2).trans rfl
    have y3 : wk.cell? ⟨w.heap.size, 3, none⟩ = some (.int .i64 S.code) := (hb2.cell 3).trans rfl
    have y4 : wk.cell? ⟨w.heap.size, 4, none⟩ = some (.int .i64 S.spill) := (hb2.cell 4).trans rfl
    have y5 : wk.cell? ⟨w.heap.size, 5, none⟩ = some (.slice A02 S.blocks.length c02) := (hb2.cell 5).trans rfl
    have hbk : Below w.heap.size w wk := H0.out.trans (hf0.below (fun _ h => h.elim) H0.out.size)
    have hcp := copy_own (HU.out.below hbk) z1 z2 z3
    unfold unV at hcp
    have hcd := HS.out.cd
    have hcdR : inR S.code S.regs := hcd
    have hcd0 := hcd.1
    have hcd1 : S.code < (R.length : Int) := by rw [hRl]; exact hcd.2
    have HCP := Lib.hid hcp
    have HCB := Lib.hid hcB
    have HCR := Lib.hid hcR
    have HBK := Lib.hid hbk
    have HOB2 := Lib.hid hOB
    have HSB := Lib.hid hSB
    have HOR2 := Lib.hid hOR
    have HSR := Lib.hid hSR
    have HB2K := Lib.hid hb2
    have HB4K := Lib.hid hb4
    clear hcp hcB hcR hbk hOB hSB hOR hSR hrB hrR hf0 hb2 hb4 hcd q1 q2 q5
    go_upto_region 4 with (go_at_call 13; go_loud ((with_reducible refine HCP.out.mono ?_); rintro x w3 ⟨A9, c9, A9b, c9b, rfl, hown, hb3⟩; have y0' := (hb3.cell (p := ⟨w.heap.size, 3, none⟩) lw).trans y3; have hsz3 := hb3.size; have lw3 : w.heap.size < w3.heap.size := Nat.lt_of_lt_of_le lw hsz3; have nw3 : w.heap.size ≠ w3.heap.size := Nat.ne_of_lt lw3; have nw3' := nw3.symm; have lR3 : gR < w3.heap.size := Nat.lt_of_lt_of_le lgR hsz3; have nR3 : gR ≠ w3.heap.size := Nat.ne_of_lt lR3; have nR3' := nR3.symm; have cR3 := (hb3.cell (p := ⟨gR, oR + S.code.toNat, none⟩) lgR).trans (HCR.out _ hcdR); have HOWN := Lib.hid hown; have HB3 := Lib.hid hb3; clear hown hb3))
    obtain ⟨vs0, hvl0, hob0⟩ := HOWN.out.bl
    obtain ⟨gb, rfl⟩ : ∃ gb, A9b = some ⟨gb, 0, none⟩ := by
      rcases hob0.2 with ⟨e, _⟩ | ⟨g, cap, cur, e, _⟩
      · injection e with e1 e2; omega
      · injection e with e1 e2; exact ⟨g, e1⟩
    obtain ⟨Wd, hWd⟩ : ∃ Wd, Wd = w3.alloc (.cells #[.slice A9 S.sizes.length c9, .int .i64 S.params, .int .i64 S.regs, .int .i64 (ixL R S.code), .int .i64 S.spill, .slice (some ⟨gb, 0, none⟩) S.blocks.length c9b] 25) := ⟨_, rfl⟩
    rw [← hWd]
    have hbd : Below w3.heap.size w3 Wd := by rw [hWd]; exact (Below.refl _ _).alloc (Nat.le_refl _) _
    have hN9 : Blk Wd w3.heap.size 25 #[.slice A9 S.sizes.length c9, .int .i64 S.params, .int .i64 S.regs, .int .i64 (ixL R S.code), .int .i64 S.spill, .slice (some ⟨gb, 0, none⟩) S.blocks.length c9b] := by rw [hWd]; exact blk_new _ rfl _ _
    have hms : MovS B R S wk.heap.size gb c9b 0 Wd S.blocks vs0 := ⟨hvl0, rfl, own_below hob0 hbd, fun j hj => absurd hj (Nat.not_lt_zero _)⟩
    have hosz : Wd.ownsRow wk.heap.size 3 1 (.slice A9 S.sizes.length c9) S.sizes.length (numV S.sizes) := own_below HOWN.out.sz hbd
    have hfd : Fr (fun b => wk.heap.size ≤ b) wk Wd := (Fr.of_below HB3.out).then_ (Fr.of_below hbd)
    have hgb : wk.heap.size ≤ gb := (hob0.lt gb rfl).1
    obtain ⟨p9, hp9⟩ : ∃ p9, p9 = w3.heap.size := ⟨_, rfl⟩
    rw [← hp9] at hN9 ⊢
    have hp9k : wk.heap.size ≤ p9 := by rw [hp9]; exact hsz3
    have ngb : gb ≠ p9 := (own_blk_ne (own_below hob0 hbd) hN9 (by decide)) |> fun h e => h (by rw [e]; rfl)
    have HMS := Lib.hid hms
    have HN9 := Lib.hid hN9
    have HSZ := Lib.hid hosz
    have HFD := Lib.hid hfd
    clear hvl0 hob0 hWd hbd hN9 hms hosz hfd hp9 HOWN HB3 y0' lw3 nw3 nw3' lR3 nR3 nR3' cR3 hsz3
    go_wp2
    go_loopw [10] (fun v10 wr => ∃ (i : Nat) (bl : List BlkS) (vs : List Value), i ≤ S.blocks.length ∧ v10 = .int .i64 i ∧ MovS B R S wk.heap.size gb c9b i wr bl vs ∧ Blk wr p9 25 #[.slice A9 S.sizes.length c9, .int .i64 S.params, .int .i64 S.regs, .int .i64 (ixL R S.code), .int .i64 S.spill, .slice (some ⟨gb, 0, none⟩) S.blocks.length c9b] ∧ wr.ownsRow wk.heap.size 3 1 (.slice A9 S.sizes.length c9) S.sizes.length (numV S.sizes) ∧ Fr (fun b => wk.heap.size ≤ b) wk wr) (fun v10 _ => S.blocks.length - (intOf v10).toNat)
    case atStart => exact ⟨0, S.blocks, vs0, Nat.zero_le _, rfl, HMS.out, HN9.out, HSZ.out, HFD.out⟩
    case round =>
      obtain ⟨i, bl, vs, hi, rfl, hms, hN9, hosz, hfr⟩ := hrel
      obtain ⟨wo, rfl⟩ : ∃ wo : World, wo = wr := ⟨_, rfl⟩
      have nlw : ¬ wk.heap.size ≤ w.heap.size := by omega
      have x5 := hfr.cell y5 nlw
      have hcBo : ∀ j, inR j S.blocks.length → wo.cell? ⟨gB, oB + j.toNat, none⟩ = some (.int .i64 (ixL B j)) := fun j hj => hfr.cell (HCB.out j hj) (by show ¬ wk.heap.size ≤ gB; omega)
      have hcRo : ∀ j, inR j S.regs → wo.cell? ⟨gR, oR + j.toNat, none⟩ = some (.int .i64 (ixL R j)) := fun j hj => hfr.cell (HCR.out j hj) (by show ¬ wk.heap.size ≤ gR; omega)
      have hszo := hfr.size
      have HMS2 := Lib.hid hms
      have HN92 := Lib.hid hN9
      have HSZ2 := Lib.hid hosz
      have HFR := Lib.hid hfr
      have HCBO := Lib.hid hcBo
      have HCRO := Lib.hid hcRo
      by_cases hlt : i < S.blocks.length
      · clear hms hN9 hosz hcBo hcRo
        have hR' := HU.out.hr
        obtain ⟨vsS, hlS, hRS, hOS⟩ := hR'
        have hfw : Fr (fun b => wk.heap.size ≤ b) w wo := (Fr.of_below HBK.out).trans HFR.out fun g hg => .inr (Nat.le_trans HBK.out.size hg)
        have nF : ∀ g, F g → ¬ wk.heap.size ≤ g := fun g hg => by have := HU.out.hF g hg; have := HBK.out.size; omega
        have hRw := hRS.fr hfw nF
        obtain ⟨g2, o2, rfl, hFg, d0, d1, d2, d3, d4, d5⟩ := blk_at hlS hRw hlt
        have hOr := (hOS i hlt).fr hfw nF
        have hbe : S.blocks[i] = S.blocks.getD i dBl := by rw [List.getD_eq_getElem?_getD, List.getElem?_eq_getElem hlt]; rfl
        rw [hbe] at hOr
        have hbf := HS.out.bls _ (blk_mem hlt)
        obtain ⟨b, hbb⟩ : ∃ b, b = S.blocks.getD i dBl := ⟨_, rfl⟩
        rw [← hbb] at d1 d2 d3 d4 d5 hOr hbf
        have HBB := Lib.hid hbb
        clear hbb hbe hlS hRS hOS hRw hfw nF hFg
        obtain ⟨bops, ⟨ek, ea, et, el⟩, bct⟩ := b
        simp only at d1 d2 d3 d4 d5 hOr
        have hsh : ∃ A cc, vsS.getD i .nilFunc = .slice A bops.length cc := by obtain ⟨_, A, cc, e, h, _⟩ := hOr; exact ⟨A, cc, e⟩
        obtain ⟨Ao, co, eO⟩ := hsh
        rw [eO] at d0 hOr
        obtain ⟨no, hno⟩ : ∃ no, no = bops.length := ⟨_, rfl⟩
        rw [← hno] at d0 hOr
        have hn400 : no ≤ 400 := by rw [hno]; exact hbf.len
        have HNO := Lib.hid hno
        have HOR3 := Lib.hid hOr
        have HBF := Lib.hid hbf
        have HMSO := HMS2.out.own
        have lg2 : g2 < wo.heap.size := lt_cell d0
        have lwo : w.heap.size < wo.heap.size := lt_cell x5
        have ng2 : g2 ≠ wo.heap.size := by omega
        have ng2' := ng2.symm
        have ng2s : g2 ≠ wo.heap.size + 1 := by omega
        have ng2s' := ng2s.symm
        have nwo : w.heap.size ≠ wo.heap.size := by omega
        have nwo' := nwo.symm
        have nwos : w.heap.size ≠ wo.heap.size + 1 := by omega
        have nwos' := nwos.symm
        have hiI : (i : Int) < S.blocks.length := by omega
        clear hno hOr hbf eO HMSO
        go_upto_if 52 with fail
        obtain ⟨Wi, hWi⟩ : ∃ Wi, Wi = (wo.alloc (.cells #[.slice Ao no co, .int .i64 ek, .int .i64 ea, .int .i64 et, .int .i64 el, .int .i64 bct] 73)).alloc (.cells #[.slice none 0 0, .int .i64 0, .int .i64 0, .int .i64 0, .int .i64 0, .int .i64 bct] 73) := ⟨_, rfl⟩
        rw [← hWi]
        have hbi : Below wo.heap.size wo Wi := by rw [hWi]; exact ((Below.refl _ _).alloc (Nat.le_refl _) _).alloc (by simp) _
        have h11 : Blk Wi wo.heap.size 73 #[.slice Ao no co, .int .i64 ek, .int .i64 ea, .int .i64 et, .int .i64 el, .int .i64 bct] := by rw [hWi]; exact (blk_new wo rfl _ _).alloc _
        have h12 : Blk Wi (wo.heap.size + 1) 73 #[.slice none 0 0, .int .i64 0, .int .i64 0, .int .i64 0, .int .i64 0, .int .i64 bct] := by rw [hWi]; exact blk_new _ (by simp) _ _
        obtain ⟨p11, hp11⟩ : ∃ p, p = wo.heap.size := ⟨_, rfl⟩
        obtain ⟨p12, hp12⟩ : ∃ p, p = wo.heap.size + 1 := ⟨_, rfl⟩
        rw [← hp12] at h12 ⊢
        rw [← hp11] at h11 ⊢
        have np12 : p11 ≠ p12 := by omega
        have e5 : Wi.cell? ⟨p11, 5, none⟩ = some (.int .i64 bct) := (h11.cell 5).trans rfl
        have f5 : Wi.cell? ⟨p12, 5, none⟩ = some (.int .i64 bct) := (h12.cell 5).trans rfl
        have ff5 := h12.frozen 5
        have hlo : ∀ g, g < wo.heap.size → g ≠ p12 := fun g hg => by omega
        have HLO := Lib.hid hlo
        have HBI := Lib.hid hbi
        have H11 := Lib.hid h11
        have H12 := Lib.hid h12
        have HP11 := Lib.hid hp11
        have HP12 := Lib.hid hp12
        have hgBo : gB < wo.heap.size := by omega
        have hgRo : gR < wo.heap.size := by omega
        obtain ⟨ctM, hct⟩ : ∃ x, x = if 0 ≤ bct then ixL B bct else bct := ⟨_, rfl⟩
        have HCT := Lib.hid hct
        clear hWi hbi h11 h12 hp11 hp12 hct hlo d0 d1 d2 d3 d4 d5 ng2 ng2' ng2s ng2s' nwo nwo' nwos nwos'
        go_cut [13] from 35 to 178 (fun v13 wx => Blk wx p12 73 #[.slice none 0 0, .int .i64 0, .int .i64 0, .int .i64 0, .int .i64 0, .int .i64 ctM] ∧ Fr (fun b => b = p12) Wi wx)
        case first => as_aux_lemma =>
          by_cases hc : 0 ≤ bct
          · have hcr : inR bct S.blocks.length := HBF.out.ct.elim (fun e => by have e' : bct = -1 := e; omega) id
            have e := HCT.out
            rw [if_pos hc] at e
            have cB := (HBI.out.cell (p := ⟨gB, oB + bct.toNat, none⟩) hgBo).trans (HCBO.out bct hcr)
            rw [← e] at cB
            have hb1 : bct < (B.length : Int) := by rw [hBl]; exact hcr.2
            clear e hcr
            go_wp2
            go_meet
            exact ⟨H12.out.set_ 5 (.int .i64 ctM), Fr.setCell (M := fun b => b = p12) (p := ⟨p12, 5, none⟩) (Fr.refl _ _) (.inl rfl) _⟩
          · have e := HCT.out
            rw [if_neg hc] at e
            subst e
            go_wp2
            go_meet
            exact ⟨H12.out, Fr.refl _ _⟩
        case rest =>
          obtain ⟨h12, hfi⟩ := hcut
          obtain ⟨wi, rfl⟩ : ∃ wi : World, wi = wc := ⟨_, rfl⟩
          have H12B := Lib.hid h12
          have HFI := Lib.hid hfi
          clear h12 hfi e5 f5 ff5
          go_wp2
          go_loopw [13] (fun v13 wz => ∃ (m : Nat) (Ac : Option Addr) (cc : Nat), m ≤ no ∧ v13 = .int .i64 m ∧ Blk wz p12 73 #[.slice Ac m cc, .int .i64 0, .int .i64 0, .int .i64 0, .int .i64 0, .int .i64 ctM] ∧ wz.ownsRow Wi.heap.size 76 7 (.slice Ac m cc) m (opsC ((bops.take m).map (movO B R))) ∧ Fr (fun b => b = p12) Wi wz) (fun v13 _ => no - (intOf v13).toNat)
          case atStart => exact ⟨0, none, 0, Nat.zero_le _, rfl, H12B.out, World.ownsRow_nil _ _ _ _, HFI.out⟩
          case round =>
            obtain ⟨m, Ac, cc, hm, rfl, h12, hoo, hfz⟩ := hrel
            obtain ⟨wz, rfl⟩ : ∃ wz : World, wz = wr := ⟨_, rfl⟩
            have hszi := HBI.out.size
            have hszz := hfz.size
            have h11 := H11.out.fr hfz np12
            have e0 : wz.cell? ⟨p11, 0, none⟩ = some (.slice Ao no co) := (h11.cell 0).trans rfl
            have HO12 := Lib.hid h12
            have HOO := Lib.hid hoo
            have HFZ := Lib.hid hfz
            have l11 := h11.lt
            have l12 := h12.lt
            have n12 : p12 ≠ wz.heap.size := by omega
            have n12' := n12.symm
            have n11 : p11 ≠ wz.heap.size := by omega
            have n11' := n11.symm
            by_cases hmt : m < no
            · have hmI : (m : Int) < no := by omega
              have hO2 := (HOR3.out.mono (F' := fun g => g < wo.heap.size) fun g hg hlt => hlt).fr ((Fr.of_below (M := fun b => b = p12) HBI.out).then_ hfz) fun g hg => HLO.out g hg
              have hrow := hO2
              obtain ⟨_, A', c', eA, _, _, hh⟩ := hO2
              obtain ⟨g4, o4, e4, _, lg4, hc4⟩ := hh (by omega)
              injection eA with eA1 _ eA2
              subst eA1 eA2
              subst e4
              have hml : m < bops.length := by rw [← HNO.out]; exact hmt
              have hof := HBF.out.ops _ (getD_mem (d := dOp) hml)
              have hat := fun j (hj : j < 7) => opsC_at bops m hml j hj
              obtain ⟨o, hoe⟩ : ∃ o, o = bops.getD m dOp := ⟨_, rfl⟩
              have hsn := opsC_snoc B R bops m hml
              rw [← hoe] at hof hat hsn
              obtain ⟨k, d, a, b, c, n, g⟩ := o
              have u0 : wz.cell? ⟨g4, o4 + m * 7, none⟩ = some (.int .i64 k) := hc4 (m * 7) _ ((hat 0 (by omega)).trans rfl)
              have u1 : wz.cell? ⟨g4, o4 + m * 7 + 1, none⟩ = some (.int .i64 d) := by rw [Nat.add_assoc]; exact hc4 (m * 7 + 1) _ ((hat 1 (by omega)).trans rfl)
              have u2 : wz.cell? ⟨g4, o4 + m * 7 + 2, none⟩ = some (.int .i64 a) := by rw [Nat.add_assoc]; exact hc4 (m * 7 + 2) _ ((hat 2 (by omega)).trans rfl)
              have u3 : wz.cell? ⟨g4, o4 + m * 7 + 3, none⟩ = some (.int .i64 b) := by rw [Nat.add_assoc]; exact hc4 (m * 7 + 3) _ ((hat 3 (by omega)).trans rfl)
              have u4 : wz.cell? ⟨g4, o4 + m * 7 + 4, none⟩ = some (.int .i64 c) := by rw [Nat.add_assoc]; exact hc4 (m * 7 + 4) _ ((hat 4 (by omega)).trans rfl)
              have u5 : wz.cell? ⟨g4, o4 + m * 7 + 5, none⟩ = some (.int .i64 n) := by rw [Nat.add_assoc]; exact hc4 (m * 7 + 5) _ ((hat 5 (by omega)).trans rfl)
              have u6 : wz.cell? ⟨g4, o4 + m * 7 + 6, none⟩ = some (.int .i64 g) := by rw [Nat.add_assoc]; exact hc4 (m * 7 + 6) _ ((hat 6 (by omega)).trans rfl)
              have hin := hof.in_
              have hgg : g = -1 ∨ inR g S.regs := hof.g
              have HIN := Lib.hid hin
              have HGG := Lib.hid hgg
              have HSN := Lib.hid hsn
              have HOE := Lib.hid hoe
              have n4 : g4 ≠ wz.heap.size := by omega
              have n4' := n4.symm
              obtain ⟨t1, ht1⟩ : ∃ t, t = hasD k := ⟨_, rfl⟩
              obtain ⟨t2, ht2⟩ : ∃ t, t = hasA k := ⟨_, rfl⟩
              obtain ⟨t3, ht3⟩ : ∃ t, t = hasB k := ⟨_, rfl⟩
              obtain ⟨t4, ht4⟩ : ∃ t, t = hasC k := ⟨_, rfl⟩
              have HH1 := Lib.hid fun W => hasD_any k W
              have HH2 := Lib.hid fun W => hasA_any k W
              have HH3 := Lib.hid fun W => hasB_any k W
              have HH4 := Lib.hid fun W => hasC_any k W
              rw [← ht1] at HH1
              rw [← ht2] at HH2
              rw [← ht3] at HH3
              rw [← ht4] at HH4
              have HT1 := Lib.hid ht1
              have HT2 := Lib.hid ht2
              have HT3 := Lib.hid ht3
              have HT4 := Lib.hid ht4
              obtain ⟨d1, hd1⟩ : ∃ x, x = if hasD k then ixL R d else d := ⟨_, rfl⟩
              obtain ⟨a1, ha1⟩ : ∃ x, x = if hasA k then ixL R a else a := ⟨_, rfl⟩
              obtain ⟨b1, hb1⟩ : ∃ x, x = if hasB k then ixL R b else b := ⟨_, rfl⟩
              obtain ⟨c1, hc1⟩ : ∃ x, x = if hasC k then ixL R c else c := ⟨_, rfl⟩
              obtain ⟨n1, hn1⟩ : ∃ x, x = if k = 21 then ixL B n else n := ⟨_, rfl⟩
              obtain ⟨g1, hg1⟩ : ∃ x, x = if 0 ≤ g then ixL R g else g := ⟨_, rfl⟩
              have HD1 := Lib.hid hd1
              have HA1 := Lib.hid ha1
              have HB1 := Lib.hid hb1
              have HC1 := Lib.hid hc1
              have HN1 := Lib.hid hn1
              have HG1 := Lib.hid hg1
              clear hrow hh hc4 hof hat hin hgg hsn hoe ht1 ht2 ht3 ht4 hd1 ha1 hb1 hc1 hn1 hg1 h12 hoo hfz h11
              go_upto_if 73 with (go_at_call 45; (with_reducible refine (HH1.out _).mono ?_); rintro x w3 ⟨rfl, rfl⟩)
              obtain ⟨Wo, hWo⟩ : ∃ Wo, Wo = wz.alloc (.cells #[.int .i64 k, .int .i64 d, .int .i64 a, .int .i64 b, .int .i64 c, .int .i64 n, .int .i64 g] 76) := ⟨_, rfl⟩
              rw [← hWo]
              have hbo : Below wz.heap.size wz Wo := by rw [hWo]; exact (Below.refl _ _).alloc (Nat.le_refl _) _
              have h14 : Blk Wo wz.heap.size 76 #[.int .i64 k, .int .i64 d, .int .i64 a, .int .i64 b, .int .i64 c, .int .i64 n, .int .i64 g] := by rw [hWo]; exact blk_new _ rfl _ _
              obtain ⟨p14, hp14⟩ : ∃ p, p = wz.heap.size := ⟨_, rfl⟩
              rw [← hp14] at h14 ⊢
              have hbow : Fr (fun b => b = p12) wo Wo := ((Fr.of_below (M := fun b => b = p12) HBI.out).then_ HFZ.out).then_ (Fr.of_below hbo)
              have cRo : ∀ j, inR j S.regs → Wo.cell? ⟨gR, oR + j.toNat, none⟩ = some (.int .i64 (ixL R j)) := fun j hj => hbow.cell (HCRO.out j hj) (HLO.out gR hgRo)
              have cBo : ∀ j, inR j S.blocks.length → Wo.cell? ⟨gB, oB + j.toNat, none⟩ = some (.int .i64 (ixL B j)) := fun j hj => hbow.cell (HCBO.out j hj) (HLO.out gB hgBo)
              have ngR14 : gR ≠ p14 := by omega
              have ngB14 : gB ≠ p14 := by omega
              have n1214 : p12 ≠ p14 := by omega
              have HBO2 := Lib.hid hbo
              have H14 := Lib.hid h14
              have HCR14 := Lib.hid cRo
              have HCB14 := Lib.hid cBo
              have HP14 := Lib.hid hp14
              have HF0 : Hid (Fr (fun b => b = p14) Wo Wo) := Lib.hid (Fr.refl _ _)
              clear hWo hbo h14 hbow cRo cBo hp14 u0 u1 u2 u3 u4 u5 u6 n4 n4' e0
              have z0 : Wo.cell? ⟨p14, 0, none⟩ = some (.int .i64 k) := (H14.out.cell 0).trans rfl
              have z1 : Wo.cell? ⟨p14, 1, none⟩ = some (.int .i64 d) := (H14.out.cell 1).trans rfl
              have zf := H14.out.frozen 1
              go_cut [13] from 59 to 131 (fun v13 wx => v13 = .int .i64 (m : Int) ∧ Blk wx p14 76 #[.int .i64 k, .int .i64 d1, .int .i64 a, .int .i64 b, .int .i64 c, .int .i64 n, .int .i64 g] ∧ Fr (fun b => b = p14) Wo wx)
              case first => as_aux_lemma =>
                cases t1
                · have e := HD1.out
                  rw [if_neg (by rw [← HT1.out]; exact Bool.false_ne_true)] at e
                  subst e
                  go_wp2
                  go_meet
                  exact ⟨rfl, H14.out, HF0.out⟩
                · have e := HD1.out
                  rw [if_pos HT1.out.symm] at e
                  have hir := HIN.out.d HT1.out.symm
                  have hi0 := hir.1
                  have hi1 : d < (R.length : Int) := by rw [hRl]; exact hir.2
                  have cR := HF0.out.cell (HCR14.out d hir) ngR14
                  rw [← e] at cR
                  clear e hir
                  go_wp2
                  go_meet
                  exact ⟨rfl, H14.out.set_ 1 (.int .i64 d1), HF0.out.setCell (M := fun b => b = p14) (p := ⟨p14, 1, none⟩) (.inl rfl) _⟩
              case rest =>
                obtain ⟨rfl, hbx, hfx⟩ := hcut
                have HX0 := Lib.hid hbx
                have HFX0 := Lib.hid hfx
                clear hbx hfx z0 z1 zf
                have z0 : wc.cell? ⟨p14, 0, none⟩ = some (.int .i64 k) := (HX0.out.cell 0).trans rfl
                have z1 : wc.cell? ⟨p14, 2, none⟩ = some (.int .i64 a) := (HX0.out.cell 2).trans rfl
                have zf := HX0.out.frozen 2
                go_upto_if 82 with (go_at_call 46; (with_reducible refine (HH2.out _).mono ?_); rintro x w3 ⟨rfl, rfl⟩)
                go_cut [13] from 59 to 131 (fun v13 wx => v13 = .int .i64 (m : Int) ∧ Blk wx p14 76 #[.int .i64 k, .int .i64 d1, .int .i64 a1, .int .i64 b, .int .i64 c, .int .i64 n, .int .i64 g] ∧ Fr (fun b => b = p14) Wo wx)
                case first => as_aux_lemma =>
                  cases t2
                  · have e := HA1.out
                    rw [if_neg (by rw [← HT2.out]; exact Bool.false_ne_true)] at e
                    subst e
                    go_wp2
                    go_meet
                    exact ⟨rfl, HX0.out, HFX0.out⟩
                  · have e := HA1.out
                    rw [if_pos HT2.out.symm] at e
                    have hir := HIN.out.a HT2.out.symm
                    have hi0 := hir.1
                    have hi1 : a < (R.length : Int) := by rw [hRl]; exact hir.2
                    have cR := HFX0.out.cell (HCR14.out a hir) ngR14
                    rw [← e] at cR
                    clear e hir
                    go_wp2
                    go_meet
                    exact ⟨rfl, HX0.out.set_ 2 (.int .i64 a1), HFX0.out.setCell (M := fun b => b = p14) (p := ⟨p14, 2, none⟩) (.inl rfl) _⟩
                case rest =>
                  obtain ⟨rfl, hbx, hfx⟩ := hcut
                  have HX1 := Lib.hid hbx
                  have HFX1 := Lib.hid hfx
                  clear hbx hfx z0 z1 zf
                  have z0 : wc.cell? ⟨p14, 0, none⟩ = some (.int .i64 k) := (HX1.out.cell 0).trans rfl
                  have z1 : wc.cell? ⟨p14, 3, none⟩ = some (.int .i64 b) := (HX1.out.cell 3).trans rfl
                  have zf := HX1.out.frozen 3
                  go_upto_if 91 with (go_at_call 47; (with_reducible refine (HH3.out _).mono ?_); rintro x w3 ⟨rfl, rfl⟩)
                  go_cut [13] from 59 to 131 (fun v13 wx => v13 = .int .i64 (m : Int) ∧ Blk wx p14 76 #[.int .i64 k, .int .i64 d1, .int .i64 a1, .int .i64 b1, .int .i64 c, .int .i64 n, .int .i64 g] ∧ Fr (fun b => b = p14) Wo wx)
                  case first => as_aux_lemma =>
                    cases t3
                    · have e := HB1.out
                      rw [if_neg (by rw [← HT3.out]; exact Bool.false_ne_true)] at e
                      subst e
                      go_wp2
                      go_meet
                      exact ⟨rfl, HX1.out, HFX1.out⟩
                    · have e := HB1.out
                      rw [if_pos HT3.out.symm] at e
                      have hir := HIN.out.b HT3.out.symm
                      have hi0 := hir.1
                      have hi1 : b < (R.length : Int) := by rw [hRl]; exact hir.2
                      have cR := HFX1.out.cell (HCR14.out b hir) ngR14
                      rw [← e] at cR
                      clear e hir
                      go_wp2
                      go_meet
                      exact ⟨rfl, HX1.out.set_ 3 (.int .i64 b1), HFX1.out.setCell (M := fun b => b = p14) (p := ⟨p14, 3, none⟩) (.inl rfl) _⟩
                  case rest =>
                    obtain ⟨rfl, hbx, hfx⟩ := hcut
                    have HX2 := Lib.hid hbx
                    have HFX2 := Lib.hid hfx
                    clear hbx hfx z0 z1 zf
                    have z0 : wc.cell? ⟨p14, 0, none⟩ = some (.int .i64 k) := (HX2.out.cell 0).trans rfl
                    have z1 : wc.cell? ⟨p14, 4, none⟩ = some (.int .i64 c) := (HX2.out.cell 4).trans rfl
                    have zf := HX2.out.frozen 4
                    go_upto_if 100 with (go_at_call 48; (with_reducible refine (HH4.out _).mono ?_); rintro x w3 ⟨rfl, rfl⟩)
                    go_cut [13] from 59 to 131 (fun v13 wx => v13 = .int .i64 (m : Int) ∧ Blk wx p14 76 #[.int .i64 k, .int .i64 d1, .int .i64 a1, .int .i64 b1, .int .i64 c1, .int .i64 n, .int .i64 g] ∧ Fr (fun b => b = p14) Wo wx)
                    case first => as_aux_lemma =>
                      cases t4
                      · have e := HC1.out
                        rw [if_neg (by rw [← HT4.out]; exact Bool.false_ne_true)] at e
                        subst e
                        go_wp2
                        go_meet
                        exact ⟨rfl, HX2.out, HFX2.out⟩
                      · have e := HC1.out
                        rw [if_pos HT4.out.symm] at e
                        have hir := HIN.out.c HT4.out.symm
                        have hi0 := hir.1
                        have hi1 : c < (R.length : Int) := by rw [hRl]; exact hir.2
                        have cR := HFX2.out.cell (HCR14.out c hir) ngR14
                        rw [← e] at cR
                        clear e hir
                        go_wp2
                        go_meet
                        exact ⟨rfl, HX2.out.set_ 4 (.int .i64 c1), HFX2.out.setCell (M := fun b => b = p14) (p := ⟨p14, 4, none⟩) (.inl rfl) _⟩
                    case rest =>
                      obtain ⟨rfl, hbx, hfx⟩ := hcut
                      have HX3 := Lib.hid hbx
                      have HFX3 := Lib.hid hfx
                      clear hbx hfx z0 z1 zf
                      have z0 : wc.cell? ⟨p14, 0, none⟩ = some (.int .i64 k) := (HX3.out.cell 0).trans rfl
                      have z1 : wc.cell? ⟨p14, 6, none⟩ = some (.int .i64 g) := (HX3.out.cell 6).trans rfl
                      have zf := HX3.out.frozen 6
                      go_upto_if 109 with fail
                      go_cut [13] from 59 to 131 (fun v13 wx => v13 = .int .i64 (m : Int) ∧ Blk wx p14 76 #[.int .i64 k, .int .i64 d1, .int .i64 a1, .int .i64 b1, .int .i64 c1, .int .i64 n, .int .i64 g1] ∧ Fr (fun b => b = p14) Wo wx)
                      case first => as_aux_lemma =>
                        by_cases hc : 0 ≤ g
                        · have e := HG1.out
                          rw [if_pos hc] at e
                          have hir : inR g S.regs := HGG.out.elim (fun e => by omega) id
                          have hi1 : g < (R.length : Int) := by rw [hRl]; exact hir.2
                          have cR := HFX3.out.cell (HCR14.out g hir) ngR14
                          rw [← e] at cR
                          clear e hir
                          go_wp2
                          go_meet
                          exact ⟨rfl, HX3.out.set_ 6 (.int .i64 g1), HFX3.out.setCell (M := fun b => b = p14) (p := ⟨p14, 6, none⟩) (.inl rfl) _⟩
                        · have e := HG1.out
                          rw [if_neg hc] at e
                          subst e
                          go_wp2
                          go_meet
                          exact ⟨rfl, HX3.out, HFX3.out⟩
                      case rest =>
                        obtain ⟨rfl, hbx, hfx⟩ := hcut
                        have HX4 := Lib.hid hbx
                        have HFX4 := Lib.hid hfx
                        clear hbx hfx z0 z1 zf
                        have z0 : wc.cell? ⟨p14, 0, none⟩ = some (.int .i64 k) := (HX4.out.cell 0).trans rfl
                        have z1 : wc.cell? ⟨p14, 5, none⟩ = some (.int .i64 n) := (HX4.out.cell 5).trans rfl
                        have zf := HX4.out.frozen 5
                        go_upto_if 118 with fail
                        go_cut [13] from 59 to 131 (fun v13 wx => v13 = .int .i64 (m : Int) ∧ Blk wx p14 76 #[.int .i64 k, .int .i64 d1, .int .i64 a1, .int .i64 b1, .int .i64 c1, .int .i64 n1, .int .i64 g1] ∧ Fr (fun b => b = p14) Wo wx)
                        case first => as_aux_lemma =>
                          by_cases hc : k = 21
                          · have e := HN1.out
                            rw [if_pos hc] at e
                            have hir := HIN.out.n hc
                            have hi0 := hir.1
                            have hi1 : n < (B.length : Int) := by rw [hBl]; exact hir.2
                            have cB := HFX4.out.cell (HCB14.out n hir) ngB14
                            rw [← e] at cB
                            have hb1 : (k == 21) = true := by simpa using hc
                            clear e hir hc
                            go_wp2
                            go_meet
                            exact ⟨rfl, HX4.out.set_ 5 (.int .i64 n1), HFX4.out.setCell (M := fun b => b = p14) (p := ⟨p14, 5, none⟩) (.inl rfl) _⟩
                          · have e := HN1.out
                            rw [if_neg hc] at e
                            subst e
                            have hb1 : (k == 21) = false := by simpa using hc
                            clear hc
                            go_wp2
                            go_meet
                            exact ⟨rfl, HX4.out, HFX4.out⟩
                        case rest =>
                          obtain ⟨rfl, hbx, hfx⟩ := hcut
                          have HX5 := Lib.hid hbx
                          have HFX5 := Lib.hid hfx
                          clear hbx hfx z0 z1 zf
                          have hb := HX5.out
                          have z0 : wc.cell? ⟨p14, 0, none⟩ = some (.int .i64 k) := (hb.cell 0).trans rfl
                          have z1 : wc.cell? ⟨p14, 1, none⟩ = some (.int .i64 d1) := (hb.cell 1).trans rfl
                          have z2 : wc.cell? ⟨p14, 2, none⟩ = some (.int .i64 a1) := (hb.cell 2).trans rfl
                          have z3 : wc.cell? ⟨p14, 3, none⟩ = some (.int .i64 b1) := (hb.cell 3).trans rfl
                          have z4 : wc.cell? ⟨p14, 4, none⟩ = some (.int .i64 c1) := (hb.cell 4).trans rfl
                          have z5 : wc.cell? ⟨p14, 5, none⟩ = some (.int .i64 n1) := (hb.cell 5).trans rfl
                          have z6 : wc.cell? ⟨p14, 6, none⟩ = some (.int .i64 g1) := (hb.cell 6).trans rfl
                          have hf12 : Fr (fun _ => False) wz Wo := Fr.of_below HBO2.out
                          have h12 := (HO12.out.fr hf12 not_false).fr HFX5.out n1214
                          have y0 : wc.cell? ⟨p12, 0, none⟩ = some (.slice Ac m cc) := (h12.cell 0).trans rfl
                          have H12C := Lib.hid h12
                          have hszc := HFX5.out.size
                          have hszo := HBO2.out.size
                          have l12c := h12.lt
                          have n12c : p12 ≠ wc.heap.size := by omega
                          have n12c' := n12c.symm
                          have HOW : Hid ((wc.alloc (.cells #[.int .i64 k, .int .i64 d1, .int .i64 a1, .int .i64 b1, .int .i64 c1, .int .i64 n1, .int .i64 g1] 76)).ownsRow Wi.heap.size 76 7 (.slice Ac m cc) m (opsC ((bops.take m).map (movO B R)))) := Lib.hid (own_fr (own_fr (own_fr HOO.out hf12 fun _ _ => not_false) HFX5.out (fun g hg e => by have := (HOO.out.lt g hg).2; have := HP14.out; have e' : g = p14 := e; omega)) (M := fun _ => False) ((Fr.refl _ wc).alloc _) fun _ _ => not_false)
                          obtain ⟨i7, hi7, hi70, hi71, hi72⟩ := info_parts inf_op
                          clear hb hf12 h12
                          go_wp2_with (at_builtin; go_must (refine wpList_append_own_at _ rfl _ _ 69 rfl Wi.heap.size 76 i7 (.agg #[.int .i64 0, .int .i64 0, .int .i64 0, .int .i64 0, .int .i64 0, .int .i64 0, .int .i64 0]) 7 56 Tryd.underlying69 hi7 hi70 hi71 hi72 rfl (by decide) (.slice Ac m cc) m _ rfl HOW.out ⟨wc.heap.size, 0, none⟩ 1 1 [.int .i64 k, .int .i64 d1, .int .i64 a1, .int .i64 b1, .int .i64 c1, .int .i64 n1, .int .i64 g1] rfl rfl ?c1 ?c2 ?c3 ?c4 ?c5 ?_; (case c1 => exact cells_new _ _ rfl _ _); (case c2 => (intro u hu; simp only [List.mem_cons, List.not_mem_nil, or_false] at hu; rcases hu with rfl | rfl | rfl | rfl | rfl | rfl | rfl <;> rfl)); (case c3 => (unfold maxLen; omega)); (case c4 => omega); (case c5 => (simp; omega)); intro v' w2 hown1 hg1 _hx hat1; obtain ⟨A4, c4, rfl⟩ := own_shape hown1; have v2 := Blk.fr (H12C.out.alloc _) (Fr.of_grown (M := fun i => (Value.slice Ac m cc).ownBlock = some i) hg1 fun _ hk => hk) (own_blk_ne HOW.out (H12C.out.alloc _) (by decide)); have y1 : w2.cell? ⟨p12, 0, none⟩ = some (.slice Ac m cc) := (v2.cell 0).trans rfl; have fy1 : w2.frozen? ⟨p12, 0, none⟩ = false := v2.frozen 0; have HV2 := Lib.hid v2; clear v2; have HO1 := Lib.hid hown1; have HGW1 := Lib.hid hg1; clear hown1 hg1 hat1 _hx))
                          go_roundw
                          case rel =>
                            refine ⟨m + 1, A4, c4, by omega, by go_num, HV2.out.set_ 0 _, ?_, ?_⟩
                            · have h := HO1.out
                              have e : opC (movO B R ⟨k, d, a, b, c, n, g⟩) = [.int .i64 k, .int .i64 d1, .int .i64 a1, .int .i64 b1, .int .i64 c1, .int .i64 n1, .int .i64 g1] := by rw [HD1.out, HA1.out, HB1.out, HC1.out, HN1.out, HG1.out]; rfl
                              rw [HSN.out, e]
                              exact own_far h (own_blk_ne h HV2.out (by decide)) _
                            · exact ((((HFZ.out.then_ (Fr.of_below HBO2.out)).trans HFX5.out (fun g e => .inr (by have := HP14.out; have e' : g = p14 := e; omega))).alloc (.cells #[.int .i64 k, .int .i64 d1, .int .i64 a1, .int .i64 b1, .int .i64 c1, .int .i64 n1, .int .i64 g1] 76)).trans (Fr.of_grown (M := fun i => (Value.slice Ac m cc).ownBlock = some i) HGW1.out fun _ hk => hk) (fun g hk => .inr (HOW.out.lt g hk).1)).setCell (M := fun b => b = p12) (p := ⟨p12, 0, none⟩) (.inl rfl) _
                          case measure => simp [intOf]; omega
            · obtain rfl : m = no := by omega
              have hw1 : wz.cell? ⟨p12, 1, none⟩ = some (.int .i64 0) := (HO12.out.cell 1).trans rfl
              have hw2 : wz.cell? ⟨p12, 2, none⟩ = some (.int .i64 0) := (HO12.out.cell 2).trans rfl
              have hw3 : wz.cell? ⟨p12, 3, none⟩ = some (.int .i64 0) := (HO12.out.cell 3).trans rfl
              have hw4 : wz.cell? ⟨p12, 4, none⟩ = some (.int .i64 0) := (HO12.out.cell 4).trans rfl
              have fw1 := HO12.out.frozen 1
              have fw2 := HO12.out.frozen 2
              have fw3 := HO12.out.frozen 3
              have fw4 := HO12.out.frozen 4
              have v1 : wz.cell? ⟨p11, 1, none⟩ = some (.int .i64 ek) := (h11.cell 1).trans rfl
              have v2 : wz.cell? ⟨p11, 2, none⟩ = some (.int .i64 ea) := (h11.cell 2).trans rfl
              have v3 : wz.cell? ⟨p11, 3, none⟩ = some (.int .i64 et) := (h11.cell 3).trans rfl
              have v4 : wz.cell? ⟨p11, 4, none⟩ = some (.int .i64 el) := (h11.cell 4).trans rfl
              clear h11 h12 hoo hfz
              go_upto_region 30 with fail
              go_cut [13] from 35 to 178 (fun v13 wx => Blk wx p12 73 #[.slice Ac m cc, .int .i64 ek, .int .i64 ea, .int .i64 et, .int .i64 el, .int .i64 ctM] ∧ Fr (fun b => b = p12) wz wx)
              case first => as_aux_lemma =>
                go_wp2
                go_meet
                exact ⟨(((HO12.out.set_ 1 (.int .i64 ek)).set_ 2 (.int .i64 ea)).set_ 3 (.int .i64 et)).set_ 4 (.int .i64 el), ((((Fr.refl _ _).setCell (M := fun b => b = p12) (p := ⟨p12, 1, none⟩) (.inl rfl) _).setCell (p := ⟨p12, 2, none⟩) (.inl rfl) _).setCell (p := ⟨p12, 3, none⟩) (.inl rfl) _).setCell (p := ⟨p12, 4, none⟩) (.inl rfl) _⟩
              case rest =>
                obtain ⟨hq, hfq⟩ := hcut
                obtain ⟨wq, rfl⟩ : ∃ wq : World, wq = wc := ⟨_, rfl⟩
                have hfwq : Fr (fun b => b = p12) wo wq := ((Fr.of_below HBI.out).then_ HFZ.out).then_ hfq
                have cRo : ∀ j, inR j S.regs → wq.cell? ⟨gR, oR + j.toNat, none⟩ = some (.int .i64 (ixL R j)) := fun j hj => hfwq.cell (HCRO.out j hj) (HLO.out gR hgRo)
                have cBo : ∀ j, inR j S.blocks.length → wq.cell? ⟨gB, oB + j.toNat, none⟩ = some (.int .i64 (ixL B j)) := fun j hj => hfwq.cell (HCBO.out j hj) (HLO.out gB hgBo)
                have h11 := (H11.out.fr HFZ.out np12).fr hfq np12
                have ngR12 := HLO.out gR hgRo
                have ngB12 := HLO.out gB hgBo
                obtain ⟨tA, htA⟩ : ∃ t, t = decide (ek ≠ 1) := ⟨_, rfl⟩
                obtain ⟨tT, htT⟩ : ∃ t, t = decide (ek = 1 ∨ ek = 2) := ⟨_, rfl⟩
                obtain ⟨tL, htL⟩ : ∃ t, t = decide (ek = 2) := ⟨_, rfl⟩
                have HHA := Lib.hid fun W => endA_any ek W
                rw [← htA] at HHA
                have HHT : Hid (∀ W, Calls Tryd.prog 28 #[.int .i64 ek] W fun x w' => x = .returned (.bool tT) ∧ W = w') := Lib.hid (fun W => by
                  rw [htT]
                  by_cases hT : ek = 1 ∨ ek = 2
                  · rw [decide_eq_true hT]; exact endTo_yes ek hT W
                  · rw [decide_eq_false hT]; exact endTo_no ek hT W)
                have HHL : Hid (∀ W, Calls Tryd.prog 29 #[.int .i64 ek] W fun x w' => x = .returned (.bool tL) ∧ W = w') := Lib.hid (fun W => by
                  rw [htL]
                  by_cases hT : ek = 2
                  · rw [decide_eq_true hT]; exact endElse_yes ek hT W
                  · rw [decide_eq_false hT]; exact endElse_no ek hT W)
                obtain ⟨ea1, hea⟩ : ∃ x, x = if ek ≠ 1 then ixL R ea else ea := ⟨_, rfl⟩
                obtain ⟨et1, het⟩ : ∃ x, x = if ek = 1 ∨ ek = 2 then ixL B et else et := ⟨_, rfl⟩
                obtain ⟨el1, hel⟩ : ∃ x, x = if ek = 2 then ixL B el else el := ⟨_, rfl⟩
                have HTA := Lib.hid htA
                have HTT := Lib.hid htT
                have HTL := Lib.hid htL
                have HEA := Lib.hid hea
                have HET1 := Lib.hid het
                have HEL1 := Lib.hid hel
                have HCRQ := Lib.hid cRo
                have HCBQ := Lib.hid cBo
                have H11Q := Lib.hid h11
                have HFWQ := Lib.hid hfwq
                have HQ0 := Lib.hid hq
                have HFQ := Lib.hid hfq
                have HG0 : Hid (Fr (fun b => b = p12) wq wq) := Lib.hid (Fr.refl _ _)
                clear htA htT htL hea het hel cRo cBo h11 hfwq hq hfq hw1 hw2 hw3 hw4 fw1 fw2 fw3 fw4 v1 v2 v3 v4
                have v1 : wq.cell? ⟨p11, 1, none⟩ = some (.int .i64 ek) := ((H11Q.out.fr HG0.out np12).cell 1).trans rfl
                have v2 : wq.cell? ⟨p11, 2, none⟩ = some (.int .i64 ea) := ((H11Q.out.fr HG0.out np12).cell 2).trans rfl
                have v3 : wq.cell? ⟨p12, 2, none⟩ = some (.int .i64 ea) := (HQ0.out.cell 2).trans rfl
                have v4 := HQ0.out.frozen 2
                go_upto_if 138 with (go_at_call 49; (with_reducible refine (HHA.out _).mono ?_); rintro x w3 ⟨rfl, rfl⟩)
                go_cut [13] from 35 to 178 (fun v13 wx => Blk wx p12 73 #[.slice Ac m cc, .int .i64 ek, .int .i64 ea1, .int .i64 et, .int .i64 el, .int .i64 ctM] ∧ Fr (fun b => b = p12) wq wx)
                case first => as_aux_lemma =>
                  cases tA
                  · have e := HEA.out
                    rw [if_neg (of_decide_eq_false HTA.out.symm)] at e
                    subst e
                    go_wp2
                    go_meet
                    exact ⟨HQ0.out, HG0.out⟩
                  · have hk : ek ≠ 1 := of_decide_eq_true HTA.out.symm
                    have e := HEA.out
                    rw [if_pos hk] at e
                    have hir : inR ea S.regs := (HBF.out.ed.a.1 hk)
                    have hi0 := hir.1
                    have hi1 : ea < (R.length : Int) := by rw [hRl]; exact hir.2
                    have cX := HG0.out.cell (HCRQ.out ea hir) ngR12
                    rw [← e] at cX
                    clear e hir hk
                    go_wp2
                    go_meet
                    exact ⟨HQ0.out.set_ 2 (.int .i64 ea1), HG0.out.setCell (M := fun b => b = p12) (p := ⟨p12, 2, none⟩) (.inl rfl) _⟩
                case rest =>
                  obtain ⟨hq, hfq⟩ := hcut
                  have HQ1 := Lib.hid hq
                  have HG11 := Lib.hid hfq
                  clear hq hfq v1 v2 v3 v4
                  have v1 : wc.cell? ⟨p11, 1, none⟩ = some (.int .i64 ek) := ((H11Q.out.fr HG11.out np12).cell 1).trans rfl
                  have v2 : wc.cell? ⟨p11, 3, none⟩ = some (.int .i64 et) := ((H11Q.out.fr HG11.out np12).cell 3).trans rfl
                  have v3 : wc.cell? ⟨p12, 3, none⟩ = some (.int .i64 et) := (HQ1.out.cell 3).trans rfl
                  have v4 := HQ1.out.frozen 3
                  go_upto_if 150 with (go_at_call 28; (with_reducible refine (HHT.out _).mono ?_); rintro x w3 ⟨rfl, rfl⟩)
                  go_cut [13] from 35 to 178 (fun v13 wx => Blk wx p12 73 #[.slice Ac m cc, .int .i64 ek, .int .i64 ea1, .int .i64 et1, .int .i64 el, .int .i64 ctM] ∧ Fr (fun b => b = p12) wq wx)
                  case first => as_aux_lemma =>
                    cases tT
                    · have e := HET1.out
                      rw [if_neg (of_decide_eq_false HTT.out.symm)] at e
                      subst e
                      go_wp2
                      go_meet
                      exact ⟨HQ1.out, HG11.out⟩
                    · have hk : ek = 1 ∨ ek = 2 := of_decide_eq_true HTT.out.symm
                      have e := HET1.out
                      rw [if_pos hk] at e
                      have hir : inR et S.blocks.length := (HBF.out.ed.t.1 (show ek ≤ 2 by omega))
                      have hi0 := hir.1
                      have hi1 : et < (B.length : Int) := by rw [hBl]; exact hir.2
                      have cX := HG11.out.cell (HCBQ.out et hir) ngB12
                      rw [← e] at cX
                      clear e hir hk
                      go_wp2
                      go_meet
                      exact ⟨HQ1.out.set_ 3 (.int .i64 et1), HG11.out.setCell (M := fun b => b = p12) (p := ⟨p12, 3, none⟩) (.inl rfl) _⟩
                  case rest =>
                    obtain ⟨hq, hfq⟩ := hcut
                    have HQ2 := Lib.hid hq
                    have HG12 := Lib.hid hfq
                    clear hq hfq v1 v2 v3 v4
                    have v1 : wc.cell? ⟨p11, 1, none⟩ = some (.int .i64 ek) := ((H11Q.out.fr HG12.out np12).cell 1).trans rfl
                    have v2 : wc.cell? ⟨p11, 4, none⟩ = some (.int .i64 el) := ((H11Q.out.fr HG12.out np12).cell 4).trans rfl
                    have v3 : wc.cell? ⟨p12, 4, none⟩ = some (.int .i64 el) := (HQ2.out.cell 4).trans rfl
                    have v4 := HQ2.out.frozen 4
                    go_upto_if 162 with (go_at_call 29; (with_reducible refine (HHL.out _).mono ?_); rintro x w3 ⟨rfl, rfl⟩)
                    go_cut [13] from 35 to 178 (fun v13 wx => Blk wx p12 73 #[.slice Ac m cc, .int .i64 ek, .int .i64 ea1, .int .i64 et1, .int .i64 el1, .int .i64 ctM] ∧ Fr (fun b => b = p12) wq wx)
                    case first => as_aux_lemma =>
                      cases tL
                      · have e := HEL1.out
                        rw [if_neg (of_decide_eq_false HTL.out.symm)] at e
                        subst e
                        go_wp2
                        go_meet
                        exact ⟨HQ2.out, HG12.out⟩
                      · have hk : ek = 2 := of_decide_eq_true HTL.out.symm
                        have e := HEL1.out
                        rw [if_pos hk] at e
                        have hir : inR el S.blocks.length := (HBF.out.ed.l.1 hk)
                        have hi0 := hir.1
                        have hi1 : el < (B.length : Int) := by rw [hBl]; exact hir.2
                        have cX := HG12.out.cell (HCBQ.out el hir) ngB12
                        rw [← e] at cX
                        clear e hir hk
                        go_wp2
                        go_meet
                        exact ⟨HQ2.out.set_ 4 (.int .i64 el1), HG12.out.setCell (M := fun b => b = p12) (p := ⟨p12, 4, none⟩) (.inl rfl) _⟩
                    case rest =>
                      obtain ⟨hq, hfq⟩ := hcut
                      have HQ3 := Lib.hid hq
                      have HG13 := Lib.hid hfq
                      clear hq hfq v1 v2 v3 v4
                      have hfin : Fr (fun b => b = p12) wo wc := HFWQ.out.then_ HG13.out
                      have hms := HMS2.out.fr hfin (HLO.out gb (HMS2.out.own.lt gb rfl).2) (fun g hg => HLO.out g hg)
                      have hgblt := (HMS2.out.own.lt gb rfl).2
                      have hN9 := HN92.out.fr hfin (HLO.out p9 HN92.out.lt)
                      have hsz := own_fr HSZ2.out hfin fun g hg => HLO.out g (HSZ2.out.lt g hg).2
                      have hfrk := HFR.out.trans hfin (fun g e => .inl (by have e' : g = p12 := e; have := HP12.out; show wk.heap.size ≤ g; omega))
                      have hopr := own_fr HOO.out (HFQ.out.then_ HG13.out) fun g hg e => own_blk_ne HOO.out HO12.out (by decide) (by rw [hg, show g = p12 from e])
                      have hszi2 := HBI.out.size
                      have hrow : Row (fun g => g ≠ gb ∧ wk.heap.size ≤ g) wc (.slice Ac m cc) m 7 (opsC ((bops.take m).map (movO B R))) := Row.of_own (N := fun g => g ≠ gb ∧ wk.heap.size ≤ g) hopr (fun g hg => ⟨fun e => by have e' : g = gb := e; omega, by omega⟩) (by decide)
                      have hjr := HOB2.out.rng i ⟨by omega, by omega⟩
                      obtain ⟨jn, hjn⟩ : ∃ jn : Nat, ixL B i = jn := ⟨(ixL B i).toNat, by have := hjr.1; omega⟩
                      have cBi := HG13.out.cell (HCBQ.out i ⟨by omega, hiI⟩) ngB12
                      rw [hjn, Int.toNat_natCast] at cBi
                      rw [hjn] at hjr
                      have hjI : (jn : Int) < S.blocks.length := hjr.2
                      have hjN : jn < S.blocks.length := by omega
                      have hiB : (i : Int) < (B.length : Int) := by omega
                      have n5 : wc.cell? ⟨p9, 5, none⟩ = some (.slice (some ⟨gb, 0, none⟩) S.blocks.length c9b) := (hN9.cell 5).trans rfl
                      have r0 : wc.cell? ⟨p12, 0, none⟩ = some (.slice Ac m cc) := (HQ3.out.cell 0).trans rfl
                      have r1 : wc.cell? ⟨p12, 1, none⟩ = some (.int .i64 ek) := (HQ3.out.cell 1).trans rfl
                      have r2 : wc.cell? ⟨p12, 2, none⟩ = some (.int .i64 ea1) := (HQ3.out.cell 2).trans rfl
                      have r3 : wc.cell? ⟨p12, 3, none⟩ = some (.int .i64 et1) := (HQ3.out.cell 3).trans rfl
                      have r4 : wc.cell? ⟨p12, 4, none⟩ = some (.int .i64 el1) := (HQ3.out.cell 4).trans rfl
                      have r5 : wc.cell? ⟨p12, 5, none⟩ = some (.int .i64 ctM) := (HQ3.out.cell 5).trans rfl
                      have hlen : (blsC vs bl).length = S.blocks.length * 6 := by rw [blsC_length _ _ (by rw [hms.vl, hms.ll]), hms.ll]
                      obtain ⟨o0, z0⟩ : ∃ u, wc.cell? ⟨gb, jn * 6, none⟩ = some u := ⟨_, (hms.own.cellAt (jn * 6) (by omega)).trans (List.getElem?_eq_getElem (by omega))⟩
                      obtain ⟨o1, z1⟩ : ∃ u, wc.cell? ⟨gb, jn * 6 + 1, none⟩ = some u := ⟨_, (hms.own.cellAt (jn * 6 + 1) (by omega)).trans (List.getElem?_eq_getElem (by omega))⟩
                      obtain ⟨o2, z2⟩ : ∃ u, wc.cell? ⟨gb, jn * 6 + 2, none⟩ = some u := ⟨_, (hms.own.cellAt (jn * 6 + 2) (by omega)).trans (List.getElem?_eq_getElem (by omega))⟩
                      obtain ⟨o3, z3⟩ : ∃ u, wc.cell? ⟨gb, jn * 6 + 3, none⟩ = some u := ⟨_, (hms.own.cellAt (jn * 6 + 3) (by omega)).trans (List.getElem?_eq_getElem (by omega))⟩
                      obtain ⟨o4, z4⟩ : ∃ u, wc.cell? ⟨gb, jn * 6 + 4, none⟩ = some u := ⟨_, (hms.own.cellAt (jn * 6 + 4) (by omega)).trans (List.getElem?_eq_getElem (by omega))⟩
                      obtain ⟨o5, z5⟩ : ∃ u, wc.cell? ⟨gb, jn * 6 + 5, none⟩ = some u := ⟨_, (hms.own.cellAt (jn * 6 + 5) (by omega)).trans (List.getElem?_eq_getElem (by omega))⟩
                      have fz0 := hms.own.frozenAt (jn * 6)
                      have fz1 := hms.own.frozenAt (jn * 6 + 1)
                      have fz2 := hms.own.frozenAt (jn * 6 + 2)
                      have fz3 := hms.own.frozenAt (jn * 6 + 3)
                      have fz4 := hms.own.frozenAt (jn * 6 + 4)
                      have fz5 := hms.own.frozenAt (jn * 6 + 5)
                      have hblk : movB B R (S.blocks.getD i dBl) = ⟨bops.map (movO B R), ⟨ek, ea1, et1, el1⟩, ctM⟩ := by rw [← HBB.out, HEA.out, HET1.out, HEL1.out, HCT.out]; rfl
                      have hrow2 : Row (fun g => g ≠ gb ∧ wk.heap.size ≤ g) wc (.slice Ac m cc) (S.blocks.getD i dBl).ops.length 7 (opsC ((S.blocks.getD i dBl).ops.map (movO B R))) := by
                        have h := hrow
                        rw [HNO.out, List.take_of_length_le (Nat.le_refl _)] at h
                        rw [← HBB.out, HNO.out]
                        exact h
                      have HEND := Lib.hid (moved_end hms HOB2.out hlt hblk hrow2 jn hjn hN9 ngb hsz hfrk hgb)
                      have ngb12 := HLO.out gb hgblt
                      clear hfin hms hN9 hsz hfrk hopr hrow hlen hblk hrow2 hjn hjr
                      go_upto_region 37 with fail
                      go_region
                      all_goals
                        go_wp2
                        go_roundw
                        case rel =>
                          exact ⟨i + 1, _, _, by omega, by go_num, HEND.out _ rfl⟩
                        case measure => simp [intOf]; omega
      · obtain rfl : i = S.blocks.length := by omega
        obtain ⟨hM, hL, hUn⟩ := hms.mov HOR2.out HSR.out HOB2.out HSB.out hosz
        have hb4 := HB4K.out.fr hfr (by show ¬ wk.heap.size ≤ w.heap.size + 1; omega)
        have r0 : wo.cell? ⟨p9, 0, none⟩ = some (.slice A9 S.sizes.length c9) := (hN9.cell 0).trans rfl
        have r1 : wo.cell? ⟨p9, 1, none⟩ = some (.int .i64 S.params) := (hN9.cell 1).trans rfl
        have r2 : wo.cell? ⟨p9, 2, none⟩ = some (.int .i64 S.regs) := (hN9.cell 2).trans rfl
        have r3 : wo.cell? ⟨p9, 3, none⟩ = some (.int .i64 (ixL R S.code)) := (hN9.cell 3).trans rfl
        have r4 : wo.cell? ⟨p9, 4, none⟩ = some (.int .i64 S.spill) := (hN9.cell 4).trans rfl
        have r5 : wo.cell? ⟨p9, 5, none⟩ = some (.slice (some ⟨gb, 0, none⟩) S.blocks.length c9b) := (hN9.cell 5).trans rfl
        have s0 : wo.cell? ⟨w.heap.size + 1, 0, none⟩ = some (.slice none 0 0) := (hb4.cell 0).trans rfl
        have t0 := hb4.frozen 0
        have s1 : wo.cell? ⟨w.heap.size + 1, 1, none⟩ = some (.int .i64 0) := (hb4.cell 1).trans rfl
        have t1 := hb4.frozen 1
        have s2 : wo.cell? ⟨w.heap.size + 1, 2, none⟩ = some (.int .i64 0) := (hb4.cell 2).trans rfl
        have t2 := hb4.frozen 2
        have s3 : wo.cell? ⟨w.heap.size + 1, 3, none⟩ = some (.int .i64 0) := (hb4.cell 3).trans rfl
        have t3 := hb4.frozen 3
        have s4 : wo.cell? ⟨w.heap.size + 1, 4, none⟩ = some (.int .i64 0) := (hb4.cell 4).trans rfl
        have t4 := hb4.frozen 4
        have s5 : wo.cell? ⟨w.heap.size + 1, 5, none⟩ = some (.slice none 0 0) := (hb4.cell 5).trans rfl
        have t5 := hb4.frozen 5
        have hbw : Below w.heap.size w wo := HBK.out.trans (hfr.below (fun b hb => by have hb' : wk.heap.size ≤ b := hb; omega) HBK.out.size)
        have HMV := Lib.hid hM
        have HL := Lib.hid hL
        have HUN := Lib.hid hUn
        have HBWO := Lib.hid hbw
        have hk4 : w.heap.size + 1 < wo.heap.size := by omega
        clear hms hN9 hosz hcBo hcRo hM hL hUn hb4 hbw
        have fin : ∀ w', Fr (fun b => b = w.heap.size + 1) wo w' → UnIn (fun g => g < w'.heap.size) w' ⟨S.sizes, S.params, S.regs, ixL R S.code, S.spill, bl⟩ A9 c9 (some ⟨gb, 0, none⟩) c9b ∧ Below w.heap.size w w' := fun w' hf =>
          ⟨(HUN.out.fr hf fun g hg e => by have e' : g = w.heap.size + 1 := e; have := hg.1; omega).all, HBWO.out.trans (hf.below (fun b hb => by have e' : b = w.heap.size + 1 := hb; omega) HBWO.out.size)⟩
        have FIN := Lib.hid fin
        clear fin
        go_wp2
        refine bodyPost_ret (v := .tuple #[.agg #[.slice A9 S.sizes.length c9, .int .i64 S.params, .int .i64 S.regs, .int .i64 (ixL R S.code), .int .i64 S.spill, .slice (some ⟨gb, 0, none⟩) S.blocks.length c9b], .slice (some ⟨gB, oB, none⟩) B.length cB, .slice (some ⟨gR, oR, none⟩) R.length cR]) (by simp [results, Tryd.results19, go_sem, *]) rfl ?_
        have e : Ending.returned (.tuple #[.agg #[.slice A9 S.sizes.length c9, .int .i64 S.params, .int .i64 S.regs, .int .i64 (ixL R S.code), .int .i64 S.spill, .slice (some ⟨gb, 0, none⟩) S.blocks.length c9b], .slice (some ⟨gB, oB, none⟩) B.length cB, .slice (some ⟨gR, oR, none⟩) R.length cR]) = Ending.returned (.tuple #[unV ⟨S.sizes, S.params, S.regs, ixL R S.code, S.spill, bl⟩ A9 c9 (some ⟨gb, 0, none⟩) c9b, .slice (some ⟨gB, oB, none⟩) B.length cB, .slice (some ⟨gR, oR, none⟩) R.length cR]) := by
          unfold unV
          rw [HL.out]
        refine ⟨_, B, R, _, _, _, _, _, _, e, HMV.out, HL.out, FIN.out _ ?_⟩
        (repeat' (first | with_reducible refine frS ?_ | with_reducible exact Fr.refl _ _))
end Go.Proofs.YtfkjkdoloamakaaDoor
