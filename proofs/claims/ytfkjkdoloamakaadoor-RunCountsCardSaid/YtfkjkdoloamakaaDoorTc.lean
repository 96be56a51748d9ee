/- op of the specification, walked. -/
import Derived.Test.YtfkjkdoloamakaaDoorTb
import Derived.Test.YtfkjkdoloamakaaDoorPh
import Derived.StillTailTactics
import Derived.Deep.CutBlock
namespace Go.Proofs.YtfkjkdoloamakaaDoor
open Go.RowKit
set_option linter.unusedVariables false
set_option linter.unusedSimpArgs false
variable {w : World} {F : Nat → Prop} {U : UnS} {Av Ab : Option Addr} {cv cb : Nat}

theorem uses_tab2 (k : Int) (h1 : 1 ≤ k) (h2 : k ≤ 25) : (bits .and .i64 (usesK k) 32 ≠ 0 ↔ isArr k = true) ∧ (bits .and .i64 (usesK k) 64 ≠ 0 ↔ isCell k = true) ∧ (bits .and .i64 (usesK k) 128 ≠ 0 ↔ k = 21) ∧ (bits .and .i64 (usesK k) 224 ≠ 0 ↔ (isArr k = true ∨ isCell k = true ∨ k = 21)) ∧ (bits .and .i64 (usesK k) 240 = 0 ↔ isN k = false) := by
  refine kinds25 (P := fun k => (bits .and .i64 (usesK k) 32 ≠ 0 ↔ isArr k = true) ∧ (bits .and .i64 (usesK k) 64 ≠ 0 ↔ isCell k = true) ∧ (bits .and .i64 (usesK k) 128 ≠ 0 ↔ k = 21) ∧ (bits .and .i64 (usesK k) 224 ≠ 0 ↔ (isArr k = true ∨ isCell k = true ∨ k = 21)) ∧ (bits .and .i64 (usesK k) 240 = 0 ↔ isN k = false)) ?_ k h1 h2
  exact of_decide_eq_true (by kernel_rfl)
theorem many_iff {U : UnS} {k n mm : Int} (h1 : 1 ≤ k ∧ k ≤ 25) (hsp : 0 ≤ U.spill) (hm : mm = if isArr k then (U.sizes.length : Int) else if isCell k then U.spill else if k = 21 then (U.blocks.length : Int) else -1) : (bits .and .i64 (usesK k) 224 ≠ 0 ∧ ¬ inR n (topOf U (usesK k))) ↔ (0 ≤ mm ∧ (n < 0 ∨ mm ≤ n)) := by
  obtain ⟨t1, t2, t3, t4, _⟩ := uses_tab2 k h1.1 h1.2
  unfold topOf
  by_cases a : isArr k = true
  · rw [if_pos (t1.2 a)]
    rw [if_pos a] at hm
    have := t4.2 (.inl a)
    unfold inR
    constructor
    · rintro ⟨_, h⟩; omega
    · intro h; exact ⟨this, by omega⟩
  rw [if_neg (fun h => a (t1.1 h))]
  rw [if_neg a] at hm
  by_cases c : isCell k = true
  · rw [if_pos (t2.2 c)]
    rw [if_pos c] at hm
    have := t4.2 (.inr (.inl c))
    unfold inR
    constructor
    · rintro ⟨_, h⟩; omega
    · intro h; exact ⟨this, by omega⟩
  rw [if_neg (fun h => c (t2.1 h))]
  rw [if_neg c] at hm
  by_cases e : k = 21
  · rw [if_pos (t3.2 e)]
    rw [if_pos e] at hm
    have := t4.2 (.inr (.inr e))
    unfold inR
    constructor
    · rintro ⟨_, h⟩; omega
    · intro h; exact ⟨this, by omega⟩
  · rw [if_neg e] at hm
    have : ¬ bits .and .i64 (usesK k) 224 ≠ 0 := fun h => (t4.1 h).elim a fun h => h.elim c e
    constructor
    · rintro ⟨h, _⟩; exact absurd h this
    · intro h; omega
theorem four {i : Nat} (h : i < 4) : i = 0 ∨ i = 1 ∨ i = 2 ∨ i = 3 := by omega
set_option maxRecDepth 100000 in
set_option maxHeartbeats 4000000 in
theorem rop_any (U : UnS) (o : OpI) (hz1 : U.sizes.length ≤ 4294967296) (hz2 : U.blocks.length ≤ 4294967296) (hsp : 0 ≤ U.spill) : Calls Tryd.prog 89 #[unV U Av cv Ab cb, opV o] w fun x w' => x = .returned (.int .i64 (opErr U o)) ∧ Below w.heap.size w w' := by
  obtain ⟨k, d, a, b, c, n, g⟩ := o
  obtain ⟨W0, hW0⟩ : ∃ W0, W0 = (w.alloc (.cells (unC U Av cv Ab cb) 25)).alloc (.cells #[.int .i64 k, .int .i64 d, .int .i64 a, .int .i64 b, .int .i64 c, .int .i64 n, .int .i64 g] 76) := ⟨_, rfl⟩
  have hb0 : Below w.heap.size w W0 := by rw [hW0]; exact ((Below.refl _ _).alloc (Nat.le_refl _) _).alloc (by simp) _
  have hq : Blk W0 w.heap.size 25 (unC U Av cv Ab cb) := by rw [hW0]; exact (blk_new w rfl _ _).alloc _
  have he : Blk W0 (w.heap.size + 1) 76 #[.int .i64 k, .int .i64 d, .int .i64 a, .int .i64 b, .int .i64 c, .int .i64 n, .int .i64 g] := by rw [hW0]; exact blk_new _ (by simp) _ _
  have e0 : W0.cell? ⟨w.heap.size + 1, 0, none⟩ = some (.int .i64 k) := (he.cell 0).trans rfl
  have KO := Lib.hid fun W => rOne_any k W
  obtain ⟨E, hE⟩ : ∃ E, E = opErr U ⟨k, d, a, b, c, n, g⟩ := ⟨_, rfl⟩
  rw [← hE]
  have HE := Lib.hid hE
  have HW0 := Lib.hid hW0
  have H0 := Lib.hid hb0
  have HQ := Lib.hid hq
  have HEB := Lib.hid he
  clear hE hW0 hb0 hq he
  by_cases h1 : 1 ≤ k ∧ k ≤ 25
  · have o1 : isOne k = true := decide_eq_true h1
    rw [o1] at KO
    obtain ⟨⟨u1, u2, u4⟩, u8, u128, u32, u64, u240⟩ := uses_tab k h1.1 h1.2
    obtain ⟨b1, hb1⟩ : ∃ t, t = hasD k := ⟨_, rfl⟩
    obtain ⟨b2, hb2⟩ : ∃ t, t = hasA k := ⟨_, rfl⟩
    obtain ⟨b3, hb3⟩ : ∃ t, t = hasB k := ⟨_, rfl⟩
    obtain ⟨b4, hb4⟩ : ∃ t, t = hasC k := ⟨_, rfl⟩
    have K1 := Lib.hid fun W => rD_any k W
    have K2 := Lib.hid fun W => rA_any k W
    have K3 := Lib.hid fun W => rB_any k W
    have K4 := Lib.hid fun W => rC_any k W
    rw [← hb1] at K1 u1
    rw [← hb2] at K2 u2
    rw [← hb3] at K3 u4
    rw [← hb4] at K4 u8
    have U1 := Lib.hid u1
    have U2 := Lib.hid u2
    have U4 := Lib.hid u4
    have U8 := Lib.hid u8
    have HK := Lib.hid h1
    clear h1 o1 u1 u2 u4 u8 u128 u32 u64 u240 hb1 hb2 hb3 hb4
    unfold unV unC opV at *
    go_enter Tryd.func89, Tryd.ntmps89
    go_upto_region 1 with fail
    rw [← HW0.out]
    go_upto_region 3 with (go_at_call 106; (with_reducible refine (KO.out _).mono ?_); rintro x w3 ⟨rfl, rfl⟩)
    go_cut [5] (fun v5 wx => ∃ g5, v5 = .slice (some ⟨g5, 0, none⟩) 4 4 ∧ Blk wx g5 4 #[.bool b1, .bool b2, .bool b3, .bool b4] ∧ Below W0.heap.size W0 wx)
    case first => as_aux_lemma =>
      go_region_held3 (fun w' => w'.cell? ⟨w.heap.size + 1, 0, none⟩ = some (.int .i64 k)) (first | exact e0 | (go_keep; done))
        (first
          | (go_at_call 45; (with_reducible refine (K1.out _).mono ?_); rintro x w3 ⟨rfl, rfl⟩)
          | (go_at_call 46; (with_reducible refine (K2.out _).mono ?_); rintro x w3 ⟨rfl, rfl⟩)
          | (go_at_call 47; (with_reducible refine (K3.out _).mono ?_); rintro x w3 ⟨rfl, rfl⟩)
          | (go_at_call 48; (with_reducible refine (K4.out _).mono ?_); rintro x w3 ⟨rfl, rfl⟩))
      all_goals
        go_wp2
        go_meet
        exact ⟨_, rfl, blk_new _ rfl _ _, by first | exact drewN_below ((Below.refl _ _).alloc (Nat.le_refl _) _) _ | exact ((Below.refl _ _).alloc (Nat.le_refl _) _).drew⟩
    case rest =>
      obtain ⟨g5, rfl, h5, hb5⟩ := hcut
      have hq := HQ.out.below hb5
      have he := HEB.out.below hb5
      have e0 : wc.cell? ⟨w.heap.size + 1, 0, none⟩ = some (.int .i64 k) := (he.cell 0).trans rfl
      have e1 : wc.cell? ⟨w.heap.size + 1, 1, none⟩ = some (.int .i64 d) := (he.cell 1).trans rfl
      have e2 : wc.cell? ⟨w.heap.size + 1, 2, none⟩ = some (.int .i64 a) := (he.cell 2).trans rfl
      have e3 : wc.cell? ⟨w.heap.size + 1, 3, none⟩ = some (.int .i64 b) := (he.cell 3).trans rfl
      have e4 : wc.cell? ⟨w.heap.size + 1, 4, none⟩ = some (.int .i64 c) := (he.cell 4).trans rfl
      have e5 : wc.cell? ⟨w.heap.size + 1, 5, none⟩ = some (.int .i64 n) := (he.cell 5).trans rfl
      have e6 : wc.cell? ⟨w.heap.size + 1, 6, none⟩ = some (.int .i64 g) := (he.cell 6).trans rfl
      go_upto_region 5 with fail
      obtain ⟨Wr, hWr⟩ : ∃ Wr, Wr = wc.alloc (.cells #[.int .i64 d, .int .i64 a, .int .i64 b, .int .i64 c] 3) := ⟨_, rfl⟩
      rw [← hWr]
      have hbr : Below wc.heap.size wc Wr := by rw [hWr]; exact (Below.refl _ _).alloc (Nat.le_refl _) _
      have h6 : Blk Wr wc.heap.size 3 #[.int .i64 d, .int .i64 a, .int .i64 b, .int .i64 c] := by rw [hWr]; exact blk_new _ rfl _ _
      obtain ⟨g6, hg6⟩ : ∃ g6, g6 = wc.heap.size := ⟨_, rfl⟩
      rw [← hg6] at h6 ⊢
      have H6 := Lib.hid h6
      have H5 := Lib.hid (h5.below hbr)
      have HQR := Lib.hid (hq.below hbr)
      have HER := Lib.hid (he.below hbr)
      have HBR : Hid (Below w.heap.size w Wr) := Lib.hid (H0.out.trans ((hb5.trans (hbr.mono hb5.size)).mono H0.out.size))
      clear hWr hbr h6 hg6 h5 hq he hb5 e0 e1 e2 e3 e4 e5 e6
      go_wp2
      go_loopw [7] (fun v7 wz => ∃ i : Nat, i ≤ 4 ∧ v7 = .int .i64 i ∧ Below Wr.heap.size Wr wz ∧ Hid (∀ j, j < i → [b1, b2, b3, b4].getD j false = true → inR ([d, a, b, c].getD j 0) U.regs)) (fun v7 _ => 4 - (intOf v7).toNat)
      case atStart => exact ⟨0, Nat.zero_le _, rfl, Below.refl _ _, Lib.hid fun j hj => absurd hj (Nat.not_lt_zero _)⟩
      case round =>
        obtain ⟨i, hi, rfl, hbz, HOKI⟩ := hrel
        by_cases hlt : i < 4
        · have hiI : (i : Int) < 4 := by omega
          have x5 : wr.cell? ⟨g5, i, none⟩ = some (.bool ([b1, b2, b3, b4].getD i false)) := ((H5.out.below hbz).cell i).trans (by rcases four hlt with rfl | rfl | rfl | rfl <;> rfl)
          have x6 : wr.cell? ⟨g6, i, none⟩ = some (.int .i64 ([d, a, b, c].getD i 0)) := ((H6.out.below hbz).cell i).trans (by rcases four hlt with rfl | rfl | rfl | rfl <;> rfl)
          obtain ⟨ub, hub⟩ : ∃ u, u = [b1, b2, b3, b4].getD i false := ⟨_, rfl⟩
          obtain ⟨rv, hrv⟩ : ∃ u, u = [d, a, b, c].getD i 0 := ⟨_, rfl⟩
          rw [← hub] at x5
          rw [← hrv] at x6
          have hqz := HQR.out.below hbz
          have q0 : wr.cell? ⟨w.heap.size, 0, none⟩ = some (.slice Av U.sizes.length cv) := (hqz.cell 0).trans rfl
          have q1 : wr.cell? ⟨w.heap.size, 1, none⟩ = some (.int .i64 U.params) := (hqz.cell 1).trans rfl
          have q2 : wr.cell? ⟨w.heap.size, 2, none⟩ = some (.int .i64 U.regs) := (hqz.cell 2).trans rfl
          have q3 : wr.cell? ⟨w.heap.size, 3, none⟩ = some (.int .i64 U.code) := (hqz.cell 3).trans rfl
          have q4 : wr.cell? ⟨w.heap.size, 4, none⟩ = some (.int .i64 U.spill) := (hqz.cell 4).trans rfl
          have q5 : wr.cell? ⟨w.heap.size, 5, none⟩ = some (.slice Ab U.blocks.length cb) := (hqz.cell 5).trans rfl
          have HUB := Lib.hid hub
          have HRV := Lib.hid hrv
          have HBZ := Lib.hid hbz
          clear hub hrv hbz hqz
          go_upto_region 8 with fail
          cases ub
          · go_quiet (fail)
            go_wp2
            go_roundw
            case rel => exact ⟨i + 1, by omega, by go_num, by first | exact drewN_below HBZ.out _ | exact HBZ.out.drew, Lib.hid fun j hj hu => (Nat.lt_or_eq_of_le (Nat.le_of_lt_succ hj)).elim (fun h => HOKI.out j h hu) (fun h => by subst h; rw [← HUB.out] at hu; cases hu)⟩
            case measure => simp [intOf]; omega
          · obtain ⟨tr, htr⟩ : ∃ t, t = decide (inR rv U.regs) := ⟨_, rfl⟩
            have kr := fun (W : World) => rReg_any (U := U) (Av := Av) (cv := cv) (Ab := Ab) (cb := cb) rv W
            rw [← htr] at kr
            unfold unV at kr
            have KR := Lib.hid kr
            have HTR := Lib.hid htr
            clear kr htr
            go_cut [52] from 36 to 52 (fun v52 wx => v52 = .bool (!tr) ∧ Below Wr.heap.size Wr wx)
            case first => as_aux_lemma =>
              go_region_held3 (fun w' => w'.cell? ⟨w.heap.size, 0, none⟩ = some (.slice Av U.sizes.length cv) ∧ w'.cell? ⟨w.heap.size, 1, none⟩ = some (.int .i64 U.params) ∧ w'.cell? ⟨w.heap.size, 2, none⟩ = some (.int .i64 U.regs) ∧ w'.cell? ⟨w.heap.size, 3, none⟩ = some (.int .i64 U.code) ∧ w'.cell? ⟨w.heap.size, 4, none⟩ = some (.int .i64 U.spill) ∧ w'.cell? ⟨w.heap.size, 5, none⟩ = some (.slice Ab U.blocks.length cb) ∧ w'.cell? ⟨g5, i, none⟩ = some (.bool true) ∧ w'.cell? ⟨g6, i, none⟩ = some (.int .i64 rv)) (first | exact ⟨q0, q1, q2, q3, q4, q5, x5, x6⟩ | exact ⟨k0, k1, k2, k3, k4, k5, k6, k7⟩ | (go_keep; done))
                (first | (go_at_call 88; (with_reducible refine (KR.out _).mono ?_); rintro x w3 ⟨rfl, hb⟩; have hb' := drewN_below HBZ.out 0; have k0 := (hb.cell (p := ⟨w.heap.size, 0, none⟩) (lt_cell q0)).trans q0; have k1 := (hb.cell (p := ⟨w.heap.size, 1, none⟩) (lt_cell q1)).trans q1; have k2 := (hb.cell (p := ⟨w.heap.size, 2, none⟩) (lt_cell q2)).trans q2; have k3 := (hb.cell (p := ⟨w.heap.size, 3, none⟩) (lt_cell q3)).trans q3; have k4 := (hb.cell (p := ⟨w.heap.size, 4, none⟩) (lt_cell q4)).trans q4; have k5 := (hb.cell (p := ⟨w.heap.size, 5, none⟩) (lt_cell q5)).trans q5; have k6 := (hb.cell (p := ⟨g5, i, none⟩) (lt_cell x5)).trans x5; have k7 := (hb.cell (p := ⟨g6, i, none⟩) (lt_cell x6)).trans x6; have HB3 := Lib.hid hb; clear hb))
              all_goals
                go_wp2
                go_meet
                exact ⟨rfl, HBZ.out.trans (Below.mono (w := wr) (B' := Wr.heap.size) ⟨HB3.out.os, HB3.out.tape, HB3.out.output, HB3.out.size, HB3.out.block⟩ HBZ.out.size)⟩
            case rest =>
              obtain ⟨rfl, hbx⟩ := hcut
              cases tr
              · have hE2 : E = 2 := by
                  rw [HE.out]
                  unfold opErr
                  rw [if_neg (fun h => h HK.out), if_pos ?_]
                  have hn : ¬ inR rv U.regs := of_decide_eq_false HTR.out.symm
                  rw [HRV.out] at hn
                  have hu := HUB.out
                  rcases four hlt with rfl | rfl | rfl | rfl
                  · exact .inl ⟨U1.out.2 hu.symm, hn⟩
                  · exact .inr (.inl ⟨U2.out.2 hu.symm, hn⟩)
                  · exact .inr (.inr (.inl ⟨U4.out.2 hu.symm, hn⟩))
                  · exact .inr (.inr (.inr (.inl ⟨U8.out.2 hu.symm, hn⟩)))
                subst hE2
                go_wp2
                go_ret
                exact ⟨rfl, HBR.out.trans (hbx.mono HBR.out.size)⟩
              · have hy : inR rv U.regs := of_decide_eq_true HTR.out.symm
                rw [HRV.out] at hy
                have HY := Lib.hid hy
                clear hy
                go_wp2
                go_roundw
                case rel => exact ⟨i + 1, by omega, by go_num, hbx, Lib.hid fun j hj hu => (Nat.lt_or_eq_of_le (Nat.le_of_lt_succ hj)).elim (fun h => HOKI.out j h hu) (fun h => by subst h; exact HY.out)⟩
                case measure => simp [intOf]; omega
        · obtain rfl : i = 4 := by omega
          have hqz := HQR.out.below hbz
          have hez := HER.out.below hbz
          have q0 : wr.cell? ⟨w.heap.size, 0, none⟩ = some (.slice Av U.sizes.length cv) := (hqz.cell 0).trans rfl
          have q1 : wr.cell? ⟨w.heap.size, 1, none⟩ = some (.int .i64 U.params) := (hqz.cell 1).trans rfl
          have q2 : wr.cell? ⟨w.heap.size, 2, none⟩ = some (.int .i64 U.regs) := (hqz.cell 2).trans rfl
          have q3 : wr.cell? ⟨w.heap.size, 3, none⟩ = some (.int .i64 U.code) := (hqz.cell 3).trans rfl
          have q4 : wr.cell? ⟨w.heap.size, 4, none⟩ = some (.int .i64 U.spill) := (hqz.cell 4).trans rfl
          have q5 : wr.cell? ⟨w.heap.size, 5, none⟩ = some (.slice Ab U.blocks.length cb) := (hqz.cell 5).trans rfl
          have e0 : wr.cell? ⟨w.heap.size + 1, 0, none⟩ = some (.int .i64 k) := (hez.cell 0).trans rfl
          have e1 : wr.cell? ⟨w.heap.size + 1, 1, none⟩ = some (.int .i64 d) := (hez.cell 1).trans rfl
          have e2 : wr.cell? ⟨w.heap.size + 1, 2, none⟩ = some (.int .i64 a) := (hez.cell 2).trans rfl
          have e3 : wr.cell? ⟨w.heap.size + 1, 3, none⟩ = some (.int .i64 b) := (hez.cell 3).trans rfl
          have e4 : wr.cell? ⟨w.heap.size + 1, 4, none⟩ = some (.int .i64 c) := (hez.cell 4).trans rfl
          have e5 : wr.cell? ⟨w.heap.size + 1, 5, none⟩ = some (.int .i64 n) := (hez.cell 5).trans rfl
          have e6 : wr.cell? ⟨w.heap.size + 1, 6, none⟩ = some (.int .i64 g) := (hez.cell 6).trans rfl
          have HBZ := Lib.hid hbz
          obtain ⟨bg, hbg⟩ : ∃ t, t = decide (g ≠ -1 ∧ ¬ inR g U.regs) := ⟨_, rfl⟩
          have HBG := Lib.hid hbg
          obtain ⟨tg, htg⟩ : ∃ t, t = decide (inR g U.regs) := ⟨_, rfl⟩
          have kg := fun (W : World) => rReg_any (U := U) (Av := Av) (cv := cv) (Ab := Ab) (cb := cb) g W
          rw [← htg] at kg
          unfold unV at kg
          have KG := Lib.hid kg
          have HTG := Lib.hid htg
          clear hbz hqz hez hbg kg htg
          go_upto_region 10 with fail
          go_cut [62] from 53 to 62 (fun v62 wx => v62 = .bool bg ∧ Below Wr.heap.size Wr wx)
          case first => as_aux_lemma =>
            by_cases hg : g = -1
            · have e : (g != -1) = false := by simp [hg]
              have e2 : bg = false := by rw [HBG.out]; exact decide_eq_false fun h => h.1 hg
              subst e2
              clear hg
              go_wp2
              go_meet
              exact ⟨rfl, HBZ.out⟩
            · have e : (g != -1) = true := by simpa using hg
              have e2 : bg = !tg := by
                rw [HBG.out, HTG.out]
                by_cases h : inR g U.regs
                · rw [decide_eq_true h, decide_eq_false fun x => x.2 h]; rfl
                · rw [decide_eq_false h, decide_eq_true ⟨hg, h⟩]; rfl
              subst e2
              clear hg
              go_wp2_with (go_at_call 88; (with_reducible refine (KG.out _).mono ?_); rintro x w3 ⟨rfl, hb⟩; have HB3 := Lib.hid hb; clear hb)
              go_meet
              exact ⟨rfl, HBZ.out.trans (HB3.out.mono HBZ.out.size)⟩
          case rest =>
            obtain ⟨rfl, hbx⟩ := hcut
            cases bg
            · have hgg : g = -1 ∨ inR g U.regs := Classical.byContradiction fun h => of_decide_eq_false HBG.out.symm ⟨fun e => h (.inl e), fun e => h (.inr e)⟩
              have hqz := HQR.out.below hbx
              have hez := HER.out.below hbx
              clear q0 q1 q2 q3 q4 q5 e0 e1 e2 e3 e4 e5 e6
              have q0 : wc.cell? ⟨w.heap.size, 0, none⟩ = some (.slice Av U.sizes.length cv) := (hqz.cell 0).trans rfl
              have q4 : wc.cell? ⟨w.heap.size, 4, none⟩ = some (.int .i64 U.spill) := (hqz.cell 4).trans rfl
              have q5 : wc.cell? ⟨w.heap.size, 5, none⟩ = some (.slice Ab U.blocks.length cb) := (hqz.cell 5).trans rfl
              have e0 : wc.cell? ⟨w.heap.size + 1, 0, none⟩ = some (.int .i64 k) := (hez.cell 0).trans rfl
              obtain ⟨ba, hba⟩ : ∃ t, t = isArr k := ⟨_, rfl⟩
              obtain ⟨bc, hbc⟩ : ∃ t, t = isCell k := ⟨_, rfl⟩
              have KA := Lib.hid fun W => rArr_any k W
              have KC := Lib.hid fun W => rCell_any k W
              rw [← hba] at KA
              rw [← hbc] at KC
              obtain ⟨mm, hmm⟩ : ∃ x : Int, x = if ba then (U.sizes.length : Int) else if bc then U.spill else if k = 21 then (U.blocks.length : Int) else -1 := ⟨_, rfl⟩
              have HBA := Lib.hid hba
              have HBC := Lib.hid hbc
              have HMM := Lib.hid hmm
              have HGG := Lib.hid hgg
              have HBX := Lib.hid hbx
              clear hqz hez hba hbc hmm hgg hbx
              go_upto_block 2 with fail
              go_cut [8] from 63 to 82 (fun v8 wx => v8 = .int .i64 mm ∧ Below Wr.heap.size Wr wx)
              case first => as_aux_lemma =>
                cases ba
                · cases bc
                  · by_cases h21 : k = 21
                    · have e : (k == 21) = true := by simpa using h21
                      have e2 : mm = U.blocks.length := by rw [HMM.out]; simp [h21]
                      subst e2
                      clear h21
                      go_wp2_with (first | (go_at_call 84; (with_reducible refine (KA.out _).mono ?_); rintro x w3 ⟨rfl, rfl⟩) | (go_at_call 107; (with_reducible refine (KC.out _).mono ?_); rintro x w3 ⟨rfl, rfl⟩))
                      go_meet
                      exact ⟨rfl, HBX.out⟩
                    · have e : (k == 21) = false := by simpa using h21
                      have e2 : mm = -1 := by rw [HMM.out]; simp [h21]
                      subst e2
                      clear h21
                      go_wp2_with (first | (go_at_call 84; (with_reducible refine (KA.out _).mono ?_); rintro x w3 ⟨rfl, rfl⟩) | (go_at_call 107; (with_reducible refine (KC.out _).mono ?_); rintro x w3 ⟨rfl, rfl⟩))
                      go_meet
                      exact ⟨rfl, HBX.out⟩
                  · have e2 : mm = U.spill := by rw [HMM.out]; simp
                    subst e2
                    go_wp2_with (first | (go_at_call 84; (with_reducible refine (KA.out _).mono ?_); rintro x w3 ⟨rfl, rfl⟩) | (go_at_call 107; (with_reducible refine (KC.out _).mono ?_); rintro x w3 ⟨rfl, rfl⟩))
                    go_meet
                    exact ⟨rfl, HBX.out⟩
                · have e2 : mm = U.sizes.length := by rw [HMM.out]; simp
                  subst e2
                  go_wp2_with (go_at_call 84; (with_reducible refine (KA.out _).mono ?_); rintro x w3 ⟨rfl, rfl⟩)
                  go_meet
                  exact ⟨rfl, HBX.out⟩
              case rest =>
                obtain ⟨rfl, hbx⟩ := hcut
                have hez := HER.out.below hbx
                clear e0 q0 q4 q5
                have e0 : wc.cell? ⟨w.heap.size + 1, 0, none⟩ = some (.int .i64 k) := (hez.cell 0).trans rfl
                have e5 : wc.cell? ⟨w.heap.size + 1, 5, none⟩ = some (.int .i64 n) := (hez.cell 5).trans rfl
                have HBY := Lib.hid hbx
                obtain ⟨bn, hbn⟩ : ∃ t, t = decide (0 ≤ mm ∧ (n < 0 ∨ mm ≤ n)) := ⟨_, rfl⟩
                have HBN := Lib.hid hbn
                have KN := Lib.hid fun W => rN_any k W
                obtain ⟨bN, hbN⟩ : ∃ t, t = isN k := ⟨_, rfl⟩
                rw [← hbN] at KN
                have HBNN := Lib.hid hbN
                have no1 : ¬ ¬ (1 ≤ k ∧ k ≤ 25) := fun h => h HK.out
                have no2 : ¬ ((bits .and .i64 (usesK k) 1 ≠ 0 ∧ ¬ inR d U.regs) ∨ (bits .and .i64 (usesK k) 2 ≠ 0 ∧ ¬ inR a U.regs) ∨ (bits .and .i64 (usesK k) 4 ≠ 0 ∧ ¬ inR b U.regs) ∨ (bits .and .i64 (usesK k) 8 ≠ 0 ∧ ¬ inR c U.regs) ∨ ¬ (g = -1 ∨ inR g U.regs)) := by
                  rintro (⟨h1, h2⟩ | ⟨h1, h2⟩ | ⟨h1, h2⟩ | ⟨h1, h2⟩ | h)
                  · exact h2 (HOKI.out 0 (by omega) (U1.out.1 h1))
                  · exact h2 (HOKI.out 1 (by omega) (U2.out.1 h1))
                  · exact h2 (HOKI.out 2 (by omega) (U4.out.1 h1))
                  · exact h2 (HOKI.out 3 (by omega) (U8.out.1 h1))
                  · exact h HGG.out
                have hmi := many_iff (U := U) (k := k) (n := n) (mm := mm) HK.out hsp (by rw [← HBA.out, ← HBC.out]; exact HMM.out)
                have HN1 := Lib.hid no1
                have HN2 := Lib.hid no2
                have HMI := Lib.hid hmi
                clear hbn hbN hez hbx no1 no2 hmi
                go_upto_region 19 with fail
                go_cut [95] from 83 to 95 (fun v95 wx => v95 = .bool bn ∧ wx = wc)
                case first => as_aux_lemma =>
                  by_cases m0 : 0 ≤ mm
                  · by_cases n0 : n < 0
                    · have e : bn = true := by rw [HBN.out]; exact decide_eq_true ⟨m0, .inl n0⟩
                      subst e
                      go_wp2
                      go_meet
                      exact ⟨rfl, rfl⟩
                    · by_cases n1 : mm ≤ n
                      · have e : bn = true := by rw [HBN.out]; exact decide_eq_true ⟨m0, .inr n1⟩
                        subst e
                        go_wp2
                        go_meet
                        exact ⟨rfl, rfl⟩
                      · have e : bn = false := by rw [HBN.out]; exact decide_eq_false fun h => h.2.elim n0 n1
                        subst e
                        go_wp2
                        go_meet
                        exact ⟨rfl, rfl⟩
                  · have e : bn = false := by rw [HBN.out]; exact decide_eq_false fun h => m0 h.1
                    subst e
                    go_wp2
                    go_meet
                    exact ⟨rfl, rfl⟩
                case rest =>
                  obtain ⟨rfl, rfl⟩ := hcut
                  cases bn
                  · have HN3 := Lib.hid (show ¬ (bits .and .i64 (usesK k) 224 ≠ 0 ∧ ¬ inR n (topOf U (usesK k))) from fun h => of_decide_eq_false HBN.out.symm (HMI.out.1 h))
                    go_wp2
                    go_loopw [9] (fun v9 wz => ∃ i : Nat, i ≤ 4 ∧ v9 = .int .i64 i ∧ wz = wc ∧ Hid (∀ j, j < i → [b1, b2, b3, b4].getD j false = false → [d, a, b, c].getD j 0 = 0)) (fun v9 _ => 4 - (intOf v9).toNat)
                    case atStart => exact ⟨0, Nat.zero_le _, rfl, rfl, Lib.hid fun j hj => absurd hj (Nat.not_lt_zero _)⟩
                    case round =>
                      obtain ⟨j, hj, rfl, hw, HZI⟩ := hrel
                      subst hw
                      by_cases hjt : j < 4
                      · have hjI : (j : Int) < 4 := by omega
                        have x5 : wr.cell? ⟨g5, j, none⟩ = some (.bool ([b1, b2, b3, b4].getD j false)) := ((H5.out.below HBY.out).cell j).trans (by rcases four hjt with rfl | rfl | rfl | rfl <;> rfl)
                        have x6 : wr.cell? ⟨g6, j, none⟩ = some (.int .i64 ([d, a, b, c].getD j 0)) := ((H6.out.below HBY.out).cell j).trans (by rcases four hjt with rfl | rfl | rfl | rfl <;> rfl)
                        obtain ⟨ub, hub⟩ : ∃ u, u = [b1, b2, b3, b4].getD j false := ⟨_, rfl⟩
                        obtain ⟨rv, hrv⟩ : ∃ u, u = [d, a, b, c].getD j 0 := ⟨_, rfl⟩
                        rw [← hub] at x5
                        rw [← hrv] at x6
                        have HUB := Lib.hid hub
                        have HRV := Lib.hid hrv
                        clear hub hrv
                        cases ub
                        · by_cases hr0 : rv = 0
                          · have e : (rv != 0) = false := by simp [hr0]
                            have HR0 := Lib.hid hr0
                            clear hr0
                            go_wp2
                            go_roundw
                            case rel => exact ⟨j + 1, by omega, by go_num, by first | rfl | trivial, Lib.hid fun i hi hu => (Nat.lt_or_eq_of_le (Nat.le_of_lt_succ hi)).elim (fun h => HZI.out i h hu) (fun h => by subst h; rw [← HRV.out]; exact HR0.out)⟩
                            case measure => simp [intOf]; omega
                          · have hE4 : E = 4 := by
                              rw [HE.out]
                              unfold opErr
                              rw [if_neg HN1.out, if_neg HN2.out, if_neg HN3.out, if_pos ?_]
                              have hn := hr0
                              rw [HRV.out] at hn
                              have hu := HUB.out
                              rcases four hjt with rfl | rfl | rfl | rfl
                              · exact .inl ⟨Classical.byContradiction fun h => (by have := U1.out.1 h; rw [show b1 = false from hu.symm] at this; cases this), hn⟩
                              · exact .inr (.inl ⟨Classical.byContradiction fun h => (by have := U2.out.1 h; rw [show b2 = false from hu.symm] at this; cases this), hn⟩)
                              · exact .inr (.inr (.inl ⟨Classical.byContradiction fun h => (by have := U4.out.1 h; rw [show b3 = false from hu.symm] at this; cases this), hn⟩))
                              · exact .inr (.inr (.inr (.inl ⟨Classical.byContradiction fun h => (by have := U8.out.1 h; rw [show b4 = false from hu.symm] at this; cases this), hn⟩)))
                            subst hE4
                            have e : (rv != 0) = true := by simpa using hr0
                            clear hr0
                            go_wp2
                            go_ret
                            exact ⟨rfl, HBR.out.trans (HBY.out.mono HBR.out.size)⟩
                        · go_wp2
                          go_roundw
                          case rel => exact ⟨j + 1, by omega, by go_num, by first | rfl | trivial, Lib.hid fun i hi hu => (Nat.lt_or_eq_of_le (Nat.le_of_lt_succ hi)).elim (fun h => HZI.out i h hu) (fun h => by subst h; rw [← HUB.out] at hu; cases hu)⟩
                          case measure => simp [intOf]; omega
                      · obtain rfl : j = 4 := by omega
                        cases bN
                        · by_cases hn0 : n = 0
                          · have HLAST : Hid (isN k = false → ¬ n ≠ 0) := Lib.hid fun _ h => h hn0
                            have hE0 : E = 0 := by
                              rw [HE.out]
                              unfold opErr
                              rw [if_neg HN1.out, if_neg HN2.out, if_neg HN3.out, if_neg]
                              rintro (⟨h1, h2⟩ | ⟨h1, h2⟩ | ⟨h1, h2⟩ | ⟨h1, h2⟩ | ⟨h1, h2⟩)
                              · exact h2 (HZI.out 0 (by omega) (by show b1 = false; cases b1; rfl; exact absurd h1 (U1.out.2 rfl)))
                              · exact h2 (HZI.out 1 (by omega) (by show b2 = false; cases b2; rfl; exact absurd h1 (U2.out.2 rfl)))
                              · exact h2 (HZI.out 2 (by omega) (by show b3 = false; cases b3; rfl; exact absurd h1 (U4.out.2 rfl)))
                              · exact h2 (HZI.out 3 (by omega) (by show b4 = false; cases b4; rfl; exact absurd h1 (U8.out.2 rfl)))
                              · exact HLAST.out ((uses_tab2 k HK.out.1 HK.out.2).2.2.2.2.1 h1) h2
                            subst hE0
                            have e : (n != 0) = false := by simp [hn0]
                            clear hn0
                            go_wp2_with (go_at_call 108; (with_reducible refine (KN.out _).mono ?_); rintro x w3 ⟨rfl, rfl⟩)
                            go_ret
                            exact ⟨rfl, HBR.out.trans (HBY.out.mono HBR.out.size)⟩
                          · have hE4 : E = 4 := by
                              rw [HE.out]
                              unfold opErr
                              rw [if_neg HN1.out, if_neg HN2.out, if_neg HN3.out, if_pos (.inr (.inr (.inr (.inr ⟨(uses_tab2 k HK.out.1 HK.out.2).2.2.2.2.2 HBNN.out.symm, hn0⟩))))]
                            subst hE4
                            have e : (n != 0) = true := by simpa using hn0
                            clear hn0
                            go_wp2_with (go_at_call 108; (with_reducible refine (KN.out _).mono ?_); rintro x w3 ⟨rfl, rfl⟩)
                            go_ret
                            exact ⟨rfl, HBR.out.trans (HBY.out.mono HBR.out.size)⟩
                        · have HLAST : Hid (isN k = false → ¬ n ≠ 0) := Lib.hid fun h => by rw [← HBNN.out] at h; cases h
                          have hE0 : E = 0 := by
                            rw [HE.out]
                            unfold opErr
                            rw [if_neg HN1.out, if_neg HN2.out, if_neg HN3.out, if_neg]
                            rintro (⟨h1, h2⟩ | ⟨h1, h2⟩ | ⟨h1, h2⟩ | ⟨h1, h2⟩ | ⟨h1, h2⟩)
                            · exact h2 (HZI.out 0 (by omega) (by show b1 = false; cases b1; rfl; exact absurd h1 (U1.out.2 rfl)))
                            · exact h2 (HZI.out 1 (by omega) (by show b2 = false; cases b2; rfl; exact absurd h1 (U2.out.2 rfl)))
                            · exact h2 (HZI.out 2 (by omega) (by show b3 = false; cases b3; rfl; exact absurd h1 (U4.out.2 rfl)))
                            · exact h2 (HZI.out 3 (by omega) (by show b4 = false; cases b4; rfl; exact absurd h1 (U8.out.2 rfl)))
                            · exact HLAST.out ((uses_tab2 k HK.out.1 HK.out.2).2.2.2.2.1 h1) h2
                          subst hE0
                          go_wp2_with (go_at_call 108; (with_reducible refine (KN.out _).mono ?_); rintro x w3 ⟨rfl, rfl⟩)
                          go_ret
                          exact ⟨rfl, HBR.out.trans (HBY.out.mono HBR.out.size)⟩
                  · have hE5 : E = 5 := by
                      rw [HE.out]
                      unfold opErr
                      rw [if_neg HN1.out, if_neg HN2.out, if_pos (HMI.out.2 (of_decide_eq_true HBN.out.symm))]
                    subst hE5
                    go_wp2
                    go_ret
                    exact ⟨rfl, HBR.out.trans (HBY.out.mono HBR.out.size)⟩
            · have hE2 : E = 2 := by
                have h := of_decide_eq_true HBG.out.symm
                rw [HE.out]
                unfold opErr
                rw [if_neg (fun h => h HK.out), if_pos (.inr (.inr (.inr (.inr (fun x => x.elim h.1 h.2)))))]
              subst hE2
              go_wp2
              go_ret
              exact ⟨rfl, HBR.out.trans (hbx.mono HBR.out.size)⟩
  · have hE4 : E = 4 := by rw [HE.out]; unfold opErr; rw [if_pos h1]
    have o1 : isOne k = false := decide_eq_false h1
    rw [o1] at KO
    subst hE4
    clear h1 o1
    unfold unV unC opV at *
    go_enter Tryd.func89, Tryd.ntmps89
    go_upto_region 1 with fail
    rw [← HW0.out]
    go_wp2_with (go_at_call 106; (with_reducible refine (KO.out _).mono ?_); rintro x w3 ⟨rfl, rfl⟩)
    go_ret
    exact ⟨rfl, H0.out⟩
end Go.Proofs.YtfkjkdoloamakaaDoor
