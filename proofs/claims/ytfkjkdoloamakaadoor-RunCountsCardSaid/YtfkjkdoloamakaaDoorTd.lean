/- Find of the specification, walked: its first answer is the unit's error. -/
import Derived.Test.YtfkjkdoloamakaaDoorTc
import Derived.Test.YtfkjkdoloamakaaDoorMg
import Derived.Test.YtfkjkdoloamakaaDoorMh
import Derived.Deep.CutBlock
import Derived.Deep.DeepCutAuto
namespace Go.Proofs.YtfkjkdoloamakaaDoor
open Go.RowKit
set_option linter.unusedVariables false
set_option linter.unusedSimpArgs false
variable {w : World} {F : Nat → Prop} {U : UnS} {Av Ab : Option Addr} {cv cb : Nat}

set_option maxRecDepth 100000 in
set_option maxHeartbeats 4000000 in
theorem rfind_any (hu : UnIn F w U Av cv Ab cb) (hz1 : U.sizes.length ≤ 4294967296) (hz2 : U.blocks.length ≤ 4294967296) (hz3 : ∀ b ∈ U.blocks, b.ops.length ≤ 4294967296) : Calls Tryd.prog 73 #[unV U Av cv Ab cb] w fun x w' => ∃ i j, x = .returned (.tuple #[.int .i64 (unErr U), .int .i64 i, .int .i64 j]) ∧ Below w.heap.size w w' := by
  obtain ⟨W0, hW0⟩ : ∃ W0, W0 = w.alloc (.cells (unC U Av cv Ab cb) 25) := ⟨_, rfl⟩
  have hb0 : Below w.heap.size w W0 := by rw [hW0]; exact (Below.refl _ _).alloc (Nat.le_refl _) _
  have hq : Blk W0 w.heap.size 25 (unC U Av cv Ab cb) := by rw [hW0]; exact blk_new w rfl _ _
  have q0 : W0.cell? ⟨w.heap.size, 0, none⟩ = some (.slice Av U.sizes.length cv) := (hq.cell 0).trans rfl
  have q1 : W0.cell? ⟨w.heap.size, 1, none⟩ = some (.int .i64 U.params) := (hq.cell 1).trans rfl
  have q2 : W0.cell? ⟨w.heap.size, 2, none⟩ = some (.int .i64 U.regs) := (hq.cell 2).trans rfl
  have q3 : W0.cell? ⟨w.heap.size, 3, none⟩ = some (.int .i64 U.code) := (hq.cell 3).trans rfl
  have q4 : W0.cell? ⟨w.heap.size, 4, none⟩ = some (.int .i64 U.spill) := (hq.cell 4).trans rfl
  have q5 : W0.cell? ⟨w.heap.size, 5, none⟩ = some (.slice Ab U.blocks.length cb) := (hq.cell 5).trans rfl
  obtain ⟨E, hE⟩ : ∃ E, E = unErr U := ⟨_, rfl⟩
  rw [← hE]
  obtain ⟨fl, hfl⟩ : ∃ t, t = decide (16 < U.sizes.length ∨ 2000 < U.blocks.length ∨ U.blocks.length = 0 ∨ 4096 < U.regs ∨ 4096 < U.spill) := ⟨_, rfl⟩
  have HE := Lib.hid hE
  have HFL := Lib.hid hfl
  have HW0 := Lib.hid hW0
  have H0 := Lib.hid hb0
  have HQ := Lib.hid hq
  have HU := Lib.hid (hu.below hb0)
  have HZ3 := Lib.hid hz3
  clear hE hfl hW0 hb0 hq hu hz3
  unfold unV unC at *
  go_enter Tryd.func73, Tryd.ntmps73
  go_upto_region 1 with fail
  rw [← HW0.out]
  go_cut [37] from 12 to 37 (fun v37 wx => v37 = .bool fl ∧ wx = W0)
  case first => as_aux_lemma =>
    by_cases c0 : (16 : Int) < U.sizes.length
    · have e : fl = true := by rw [HFL.out]; exact decide_eq_true (by omega)
      subst e
      go_wp2
      go_meet
      exact ⟨rfl, rfl⟩
    by_cases c1 : (2000 : Int) < U.blocks.length
    · have e : fl = true := by rw [HFL.out]; exact decide_eq_true (by omega)
      subst e
      go_wp2
      go_meet
      exact ⟨rfl, rfl⟩
    by_cases c2 : (U.blocks.length : Int) = 0
    · have e : fl = true := by rw [HFL.out]; exact decide_eq_true (by omega)
      subst e
      have z2 : ((U.blocks.length : Int) == 0) = true := by simp [c2]
      go_wp2
      go_meet
      exact ⟨rfl, rfl⟩
    have z2 : ((U.blocks.length : Int) == 0) = false := by simpa using c2
    by_cases c3 : 4096 < U.regs
    · have e : fl = true := by rw [HFL.out]; exact decide_eq_true (by omega)
      subst e
      go_wp2
      go_meet
      exact ⟨rfl, rfl⟩
    by_cases c4 : 4096 < U.spill
    · have e : fl = true := by rw [HFL.out]; exact decide_eq_true (by omega)
      subst e
      go_wp2
      go_meet
      exact ⟨rfl, rfl⟩
    have e : fl = false := by rw [HFL.out]; exact decide_eq_false (by omega)
    subst e
    go_wp2
    go_meet
    exact ⟨rfl, rfl⟩

  case rest =>
    obtain ⟨rfl, rfl⟩ := hcut
    cases fl
    · have hlim := of_decide_eq_false HFL.out.symm
      have l1 : U.sizes.length ≤ 16 := by omega
      have l2 : U.blocks.length ≤ 2000 := by omega
      have l3 : 0 < U.blocks.length := by omega
      have l4 : U.regs ≤ 4096 := by omega
      have l5 : U.spill ≤ 4096 := by omega
      have no1 : ¬ ¬ (U.sizes.length ≤ 16 ∧ 0 < U.blocks.length ∧ U.blocks.length ≤ 2000 ∧ U.regs ≤ 4096 ∧ U.spill ≤ 4096) := fun h => h ⟨l1, l3, l2, l4, l5⟩
      have HN1 := Lib.hid no1
      clear hlim no1
      go_wp2
      go_loopw [5] (fun v5 wz => ∃ i : Nat, i ≤ U.sizes.length ∧ v5 = .int .i64 i ∧ wz = wc ∧ Hid (∀ j, j < i → 1 ≤ U.sizes.getD j 0 ∧ U.sizes.getD j 0 ≤ 65536)) (fun v5 _ => U.sizes.length - (intOf v5).toNat)
      case atStart => exact ⟨0, Nat.zero_le _, rfl, rfl, Lib.hid fun j hj => absurd hj (Nat.not_lt_zero _)⟩
      case round =>
        obtain ⟨i, hi, rfl, hw, HZI⟩ := hrel
        subst hw
        by_cases hlt : i < U.sizes.length
        · have hiI : (i : Int) < U.sizes.length := by omega
          obtain ⟨g1, o1, rfl, _, hc⟩ := row_at HU.out.hs hlt
          obtain ⟨x, hx⟩ : ∃ x, x = U.sizes.getD i 0 := ⟨_, rfl⟩
          have hcx : wr.cell? ⟨g1, o1 + i, none⟩ = some (.int .i64 x) := hc _ (by rw [hx, numV, List.getElem?_map, List.getElem?_eq_getElem hlt, List.getD_eq_getElem?_getD, List.getElem?_eq_getElem hlt]; rfl)
          have hmem : x ∈ U.sizes := by rw [hx, List.getD_eq_getElem?_getD, List.getElem?_eq_getElem hlt]; exact List.getElem_mem hlt
          have HX := Lib.hid hx
          have HMEM := Lib.hid hmem
          clear hc hx hmem
          by_cases hok : 1 ≤ x ∧ x ≤ 65536
          · obtain ⟨k1, k2⟩ := hok
            go_wp2
            go_roundw
            case rel => exact ⟨i + 1, by omega, by go_num, by first | rfl | trivial, Lib.hid fun j hj => (Nat.lt_or_eq_of_le (Nat.le_of_lt_succ hj)).elim (fun h => HZI.out j h) (fun h => by subst h; rw [← HX.out]; exact ⟨k1, k2⟩)⟩
            case measure => simp [intOf]; omega
          · have hE2 : E = 2 := by
              rw [HE.out]
              unfold unErr
              rw [if_neg HN1.out, if_pos (fun h => hok (h x HMEM.out))]
            subst hE2
            rcases Int.lt_or_le x 1 with k1 | k1
            · clear hok
              go_wp2
              refine bodyPost_ret (v := .tuple #[.int .i64 2, .int .i64 0, .int .i64 0]) (by simp [results, Tryd.results73, go_sem]) rfl ?_
              exact ⟨0, 0, rfl, H0.out⟩
            · have k2 : 65536 < x := by omega
              clear hok
              go_wp2
              refine bodyPost_ret (v := .tuple #[.int .i64 2, .int .i64 0, .int .i64 0]) (by simp [results, Tryd.results73, go_sem]) rfl ?_
              exact ⟨0, 0, rfl, H0.out⟩
        · obtain rfl : i = U.sizes.length := by omega
          have no2 : ¬ ¬ ∀ n ∈ U.sizes, 1 ≤ n ∧ n ≤ 65536 := fun h => h fun n hn => by
            obtain ⟨j, hj, rfl⟩ := List.getElem_of_mem hn
            have := HZI.out j hj
            rw [List.getD_eq_getElem?_getD, List.getElem?_eq_getElem hj] at this
            exact this
          have HN2 := Lib.hid no2
          obtain ⟨f8, hf8⟩ : ∃ t, t = decide (U.regs < 1 ∨ U.spill < 0 ∨ U.params < 0 ∨ 8 < U.params ∨ U.regs < U.params ∨ ¬ inR U.code U.regs) := ⟨_, rfl⟩
          obtain ⟨tr, htr⟩ : ∃ t, t = decide (inR U.code U.regs) := ⟨_, rfl⟩
          have kr := fun (W : World) => rReg_any (U := U) (Av := Av) (cv := cv) (Ab := Ab) (cb := cb) U.code W
          rw [← htr] at kr
          unfold unV at kr
          have KR := Lib.hid kr
          have HTR := Lib.hid htr
          have HF8 := Lib.hid hf8
          clear no2 hf8 htr kr
          go_upto_region 8 with fail
          go_cut [90] from 59 to 90 (fun v90 wx => v90 = .bool f8 ∧ Below wr.heap.size wr wx)
          case first => as_aux_lemma =>
            by_cases c0 : U.regs < 1
            · have e : f8 = true := by rw [HF8.out]; exact decide_eq_true (by omega)
              subst e
              go_wp2
              go_meet
              exact ⟨rfl, Below.refl _ _⟩
            by_cases c1 : U.spill < 0
            · have e : f8 = true := by rw [HF8.out]; exact decide_eq_true (by omega)
              subst e
              go_wp2
              go_meet
              exact ⟨rfl, Below.refl _ _⟩
            by_cases c2 : U.params < 0
            · have e : f8 = true := by rw [HF8.out]; exact decide_eq_true (by omega)
              subst e
              go_wp2
              go_meet
              exact ⟨rfl, Below.refl _ _⟩
            by_cases c3 : 8 < U.params
            · have e : f8 = true := by rw [HF8.out]; exact decide_eq_true (by omega)
              subst e
              go_wp2
              go_meet
              exact ⟨rfl, Below.refl _ _⟩
            by_cases c4 : U.regs < U.params
            · have e : f8 = true := by rw [HF8.out]; exact decide_eq_true (by omega)
              subst e
              go_wp2
              go_meet
              exact ⟨rfl, Below.refl _ _⟩
            have e : f8 = !tr := by
              rw [HF8.out, HTR.out]
              by_cases h : inR U.code U.regs
              · rw [decide_eq_true h, decide_eq_false (fun x => x.elim c0 fun x => x.elim c1 fun x => x.elim c2 fun x => x.elim c3 fun x => x.elim c4 fun x => x h)]; rfl
              · rw [decide_eq_false h, decide_eq_true (.inr (.inr (.inr (.inr (.inr h)))))]; rfl
            subst e
            go_wp2_with (go_at_call 88; (with_reducible refine (KR.out _).mono ?_); rintro x w3 ⟨rfl, hb⟩; have HB3 := Lib.hid hb; clear hb)
            go_meet
            exact ⟨rfl, HB3.out⟩
          case rest =>
            obtain ⟨rfl, hbx⟩ := hcut
            cases f8
            · have h8 := of_decide_eq_false HF8.out.symm
              have g1 : 1 ≤ U.regs := by omega
              have g2 : 0 ≤ U.spill := by omega
              have gsp := g2
              have g6 : inR U.code U.regs := Classical.byContradiction fun h => h8 (.inr (.inr (.inr (.inr (.inr h)))))
              have HET : Hid (E = tailErr U) := Lib.hid (by
                rw [HE.out]
                unfold unErr
                rw [if_neg HN1.out, if_neg HN2.out, if_neg (fun h => h ⟨g1, g2, by omega, by omega, by omega, g6⟩)])
              obtain ⟨T, hT⟩ : ∃ T, T = firstE (U.blocks.map (blErr U)) := ⟨_, rfl⟩
              have HT := Lib.hid hT
              have HBX := Lib.hid hbx
              have HUX := Lib.hid (HU.out.below hbx)
              have hqx := HQ.out.below hbx
              have HQX := Lib.hid hqx
              clear h8 g6 hT hbx q0 q1 q2 q3 q4 q5
              have q0 : wc.cell? ⟨w.heap.size, 0, none⟩ = some (.slice Av U.sizes.length cv) := (hqx.cell 0).trans rfl
              have q1 : wc.cell? ⟨w.heap.size, 1, none⟩ = some (.int .i64 U.params) := (hqx.cell 1).trans rfl
              have q2 : wc.cell? ⟨w.heap.size, 2, none⟩ = some (.int .i64 U.regs) := (hqx.cell 2).trans rfl
              have q3 : wc.cell? ⟨w.heap.size, 3, none⟩ = some (.int .i64 U.code) := (hqx.cell 3).trans rfl
              have q4 : wc.cell? ⟨w.heap.size, 4, none⟩ = some (.int .i64 U.spill) := (hqx.cell 4).trans rfl
              have q5 : wc.cell? ⟨w.heap.size, 5, none⟩ = some (.slice Ab U.blocks.length cb) := (hqx.cell 5).trans rfl
              clear hqx
              go_wp2
              go_loopw [6, 7] (fun v6 v7 wz => ∃ i : Nat, i ≤ U.blocks.length ∧ v7 = .int .i64 i ∧ v6 = .int .i64 (opsSum (U.blocks.take i) : Nat) ∧ (opsSum (U.blocks.take i) ≤ i * 400) ∧ Below wc.heap.size wc wz ∧ Hid (T = firstE ((U.blocks.drop i).map (blErr U)))) (fun _ v7 _ => U.blocks.length - (intOf v7).toNat)
              case atStart => exact ⟨0, Nat.zero_le _, rfl, rfl, Nat.zero_le _, Below.refl _ _, Lib.hid (by rw [List.drop_zero]; exact HT.out)⟩
              case round =>
                obtain ⟨i, hi, rfl, rfl, hs, hbz, HFE⟩ := hrel
                rename World => wo
                have hqo := HQX.out.below hbz
                have q0 : wo.cell? ⟨w.heap.size, 0, none⟩ = some (.slice Av U.sizes.length cv) := (hqo.cell 0).trans rfl
                have q1 : wo.cell? ⟨w.heap.size, 1, none⟩ = some (.int .i64 U.params) := (hqo.cell 1).trans rfl
                have q2 : wo.cell? ⟨w.heap.size, 2, none⟩ = some (.int .i64 U.regs) := (hqo.cell 2).trans rfl
                have q3 : wo.cell? ⟨w.heap.size, 3, none⟩ = some (.int .i64 U.code) := (hqo.cell 3).trans rfl
                have q4 : wo.cell? ⟨w.heap.size, 4, none⟩ = some (.int .i64 U.spill) := (hqo.cell 4).trans rfl
                have q5 : wo.cell? ⟨w.heap.size, 5, none⟩ = some (.slice Ab U.blocks.length cb) := (hqo.cell 5).trans rfl
                by_cases hlt : i < U.blocks.length
                · have hiI : (i : Int) < U.blocks.length := by omega
                  have HUR := HUX.out.below hbz
                  obtain ⟨vsS, hlS, hRS, hOS⟩ := HUR.hr
                  obtain ⟨g2, o2, rfl, hFg, d0, d1, d2, d3, d4, d5⟩ := blk_at hlS hRS hlt
                  have hOr := hOS i hlt
                  have hbe : U.blocks[i] = U.blocks.getD i dBl := by rw [List.getD_eq_getElem?_getD, List.getElem?_eq_getElem hlt]; rfl
                  rw [hbe] at hOr
                  have hnl := HZ3.out _ (getD_mem (d := dBl) hlt)
                  obtain ⟨hNX, hBD⟩ := firstE_drop (blErr U) U.blocks dBl i hlt _ HFE.out
                  obtain ⟨hs1, _⟩ := opsSum_take U.blocks i hlt
                  obtain ⟨b, hbb⟩ : ∃ b, b = U.blocks.getD i dBl := ⟨_, rfl⟩
                  rw [← hbb] at d1 d2 d3 d4 d5 hOr hnl hNX hBD hs1
                  clear hbb hbe
                  obtain ⟨bops, ⟨ek, ea, et, el⟩, bct⟩ := b
                  simp only at d1 d2 d3 d4 d5 hOr hnl hs1
                  obtain ⟨eB, heB⟩ : ∃ e, e = blErr U ⟨bops, ⟨ek, ea, et, el⟩, bct⟩ := ⟨_, rfl⟩
                  rw [← heB] at hNX hBD
                  have hsh : ∃ A cc, vsS.getD i .nilFunc = .slice A bops.length cc := by obtain ⟨_, A, cc, e, h, _⟩ := hOr; exact ⟨A, cc, e⟩
                  obtain ⟨Ao, co, eO⟩ := hsh
                  rw [eO] at d0 hOr
                  obtain ⟨no, hno⟩ : ∃ no, no = bops.length := ⟨_, rfl⟩
                  rw [← hno] at d0 hOr hnl hs1
                  obtain ⟨sm, hsm⟩ : ∃ sm, sm = opsSum (U.blocks.take i) := ⟨_, rfl⟩
                  rw [← hsm] at hs hs1
                  rw [← hsm]
                  have HS1 := Lib.hid hs1
                  have HNO := Lib.hid hno
                  have HOR3 := Lib.hid hOr
                  have HEBE := Lib.hid heB
                  have HNX := Lib.hid hNX
                  have HBD : Hid (eB ≠ 0 → E = eB) := Lib.hid fun h => HET.out.trans (tail_bad (HT.out.symm.trans (hBD h)) h)
                  have lg2 : g2 < wo.heap.size := lt_cell d0
                  have lwo : w.heap.size < wo.heap.size := lt_cell ((HQX.out.below hbz).cell 0 |>.trans rfl)
                  have ng2 : g2 ≠ wo.heap.size := by omega
                  have ng2' := ng2.symm
                  have nwo : w.heap.size ≠ wo.heap.size := by omega
                  have nwo' := nwo.symm
                  clear hno hOr eO hs1 hsm heB hNX hBD hRS hOS hlS HUR hFg
                  go_upto_region 15 with fail
                  obtain ⟨Wi, hWi⟩ : ∃ Wi, Wi = wo.alloc (.cells #[.slice Ao no co, .int .i64 ek, .int .i64 ea, .int .i64 et, .int .i64 el, .int .i64 bct] 73) := ⟨_, rfl⟩
                  rw [← hWi]
                  have hbi : Below wo.heap.size wo Wi := by rw [hWi]; exact (Below.refl _ _).alloc (Nat.le_refl _) _
                  have hei : Blk Wi wo.heap.size 73 #[.slice Ao no co, .int .i64 ek, .int .i64 ea, .int .i64 et, .int .i64 el, .int .i64 bct] := by rw [hWi]; exact blk_new wo rfl _ _
                  have hqi := hqo.below hbi
                  have hbwi : Below wc.heap.size wc Wi := hbz.trans (hbi.mono hbz.size)
                  have HBW := Lib.hid hbwi
                  have HBI := Lib.hid hbi
                  have HQO := Lib.hid hqo
                  clear hWi hbi hbwi hqo q0 q1 q2 q3 q4 q5 d0 d1 d2 d3 d4 d5
                  have q0 : Wi.cell? ⟨w.heap.size, 0, none⟩ = some (.slice Av U.sizes.length cv) := (hqi.cell 0).trans rfl
                  have q1 : Wi.cell? ⟨w.heap.size, 1, none⟩ = some (.int .i64 U.params) := (hqi.cell 1).trans rfl
                  have q2 : Wi.cell? ⟨w.heap.size, 2, none⟩ = some (.int .i64 U.regs) := (hqi.cell 2).trans rfl
                  have q3 : Wi.cell? ⟨w.heap.size, 3, none⟩ = some (.int .i64 U.code) := (hqi.cell 3).trans rfl
                  have q4 : Wi.cell? ⟨w.heap.size, 4, none⟩ = some (.int .i64 U.spill) := (hqi.cell 4).trans rfl
                  have q5 : Wi.cell? ⟨w.heap.size, 5, none⟩ = some (.slice (some ⟨g2, o2, none⟩) U.blocks.length cb) := (hqi.cell 5).trans rfl
                  have e0 : Wi.cell? ⟨wo.heap.size, 0, none⟩ = some (.slice Ao no co) := (hei.cell 0).trans rfl
                  have e5 : Wi.cell? ⟨wo.heap.size, 5, none⟩ = some (.int .i64 bct) := (hei.cell 5).trans rfl
                  obtain ⟨f1, hf1⟩ : ∃ t, t = decide (bct < -1 ∨ (U.blocks.length : Int) ≤ bct) := ⟨_, rfl⟩
                  have HF1 := Lib.hid hf1
                  have HQI := Lib.hid hqi
                  have HEI := Lib.hid hei
                  clear hf1 hqi hei
                  go_cut [113] from 103 to 113 (fun v113 wx => v113 = .bool f1 ∧ wx = Wi)
                  case first => as_aux_lemma =>
                    by_cases c0 : bct < -1
                    · have e : f1 = true := by rw [HF1.out]; exact decide_eq_true (.inl c0)
                      subst e
                      go_wp2
                      go_meet
                      exact ⟨rfl, rfl⟩
                    · by_cases c1 : (U.blocks.length : Int) ≤ bct
                      · have e : f1 = true := by rw [HF1.out]; exact decide_eq_true (.inr c1)
                        subst e
                        go_wp2
                        go_meet
                        exact ⟨rfl, rfl⟩
                      · have e : f1 = false := by rw [HF1.out]; exact decide_eq_false (fun h => h.elim c0 c1)
                        subst e
                        go_wp2
                        go_meet
                        exact ⟨rfl, rfl⟩
                  case rest =>
                    obtain ⟨rfl, rfl⟩ := hcut
                    rename World => wi
                    have hqi := HQI.out
                    have hei := HEI.out
                    cases f1
                    · have hct := of_decide_eq_false HF1.out.symm
                      have hct' : bct = -1 ∨ inR bct U.blocks.length := by
                        by_cases h : bct = -1
                        · exact .inl h
                        · exact .inr ⟨by omega, by omega⟩
                      have HCT := Lib.hid hct'
                      clear hct hct'
                      by_cases h4 : 400 < no
                      · have h4I : (400 : Int) < no := by omega
                        have hE : E = 3 := by
                          have e : eB = 3 := by
                            rw [HEBE.out]; unfold blErr
                            rw [if_neg (fun h => h HCT.out), if_pos (by rw [← HNO.out]; exact h4)]
                          have := HBD.out (by rw [e]; decide)
                          rw [this, e]
                        subst hE
                        clear h4
                        go_wp2
                        go_quiet (fail)
                        go_wp2
                        refine bodyPost_ret (v := .tuple #[.int .i64 3, .int .i64 i, .int .i64 no]) (by simp [results, Tryd.results73, go_sem]) rfl ?_
                        first | exact ⟨_, _, rfl, H0.out.trans (HBX.out.trans (drewN_below (HBW.out.mono HBX.out.size) _) |>.mono H0.out.size)⟩ | exact ⟨⟨_, _, rfl⟩, H0.out.trans (HBX.out.trans (drewN_below (HBW.out.mono HBX.out.size) _) |>.mono H0.out.size)⟩
                      · have h4' : no ≤ 400 := by omega
                        obtain ⟨B1, hB1⟩ : ∃ B1, B1 = firstE (bops.map (opErr U)) := ⟨_, rfl⟩
                        have HB1 := Lib.hid hB1
                        clear hB1 h4
                        go_wp2
                        go_loopw [9] (fun v9 wz => ∃ m : Nat, m ≤ no ∧ v9 = .int .i64 m ∧ Below wi.heap.size wi wz ∧ Hid (B1 = firstE ((bops.drop m).map (opErr U)))) (fun v9 _ => no - (intOf v9).toNat)
                        case atStart => exact ⟨0, Nat.zero_le _, rfl, Below.refl _ _, Lib.hid (by rw [List.drop_zero]; exact HB1.out)⟩
                        case round =>
                          obtain ⟨m, hm, rfl, hbz3, HFO⟩ := hrel
                          rename World => wz
                          have hqz := hqi.below hbz3
                          have q0 : wz.cell? ⟨w.heap.size, 0, none⟩ = some (.slice Av U.sizes.length cv) := (hqz.cell 0).trans rfl
                          have q1 : wz.cell? ⟨w.heap.size, 1, none⟩ = some (.int .i64 U.params) := (hqz.cell 1).trans rfl
                          have q2 : wz.cell? ⟨w.heap.size, 2, none⟩ = some (.int .i64 U.regs) := (hqz.cell 2).trans rfl
                          have q3 : wz.cell? ⟨w.heap.size, 3, none⟩ = some (.int .i64 U.code) := (hqz.cell 3).trans rfl
                          have q4 : wz.cell? ⟨w.heap.size, 4, none⟩ = some (.int .i64 U.spill) := (hqz.cell 4).trans rfl
                          have q5 : wz.cell? ⟨w.heap.size, 5, none⟩ = some (.slice (some ⟨g2, o2, none⟩) U.blocks.length cb) := (hqz.cell 5).trans rfl
                          have hez := hei.below hbz3
                          have e0 : wz.cell? ⟨wo.heap.size, 0, none⟩ = some (.slice Ao no co) := (hez.cell 0).trans rfl
                          have e1 : wz.cell? ⟨wo.heap.size, 1, none⟩ = some (.int .i64 ek) := (hez.cell 1).trans rfl
                          have e2 : wz.cell? ⟨wo.heap.size, 2, none⟩ = some (.int .i64 ea) := (hez.cell 2).trans rfl
                          have e3 : wz.cell? ⟨wo.heap.size, 3, none⟩ = some (.int .i64 et) := (hez.cell 3).trans rfl
                          have e4 : wz.cell? ⟨wo.heap.size, 4, none⟩ = some (.int .i64 el) := (hez.cell 4).trans rfl
                          by_cases hmt : m < no
                          · have hmI : (m : Int) < no := by omega
                            obtain ⟨_, A', c', eA, _, _, hh⟩ := HOR3.out.fr (Fr.of_below (M := fun _ => False) (HBI.out.trans (hbz3.mono HBI.out.size))) (fun _ _ => not_false)
                            obtain ⟨g4, o4, e4A, _, lg4, hc4⟩ := hh (by omega)
                            injection eA with eA1 _ eA2
                            subst eA1 eA2
                            subst e4A
                            have hml : m < bops.length := by rw [← HNO.out]; exact hmt
                            have hat := fun j (hj : j < 7) => opsC_at bops m hml j hj
                            obtain ⟨hN3, hB3⟩ := firstE_drop (opErr U) bops dOp m hml _ HFO.out
                            obtain ⟨o, hoe⟩ : ∃ o, o = bops.getD m dOp := ⟨_, rfl⟩
                            rw [← hoe] at hat hN3 hB3
                            obtain ⟨k, d, a, b, c, n, g⟩ := o
                            have u0 : wz.cell? ⟨g4, o4 + m * 7, none⟩ = some (.int .i64 k) := hc4 (m * 7) _ ((hat 0 (by omega)).trans rfl)
                            have u1 : wz.cell? ⟨g4, o4 + m * 7 + 1, none⟩ = some (.int .i64 d) := by rw [Nat.add_assoc]; exact hc4 (m * 7 + 1) _ ((hat 1 (by omega)).trans rfl)
                            have u2 : wz.cell? ⟨g4, o4 + m * 7 + 2, none⟩ = some (.int .i64 a) := by rw [Nat.add_assoc]; exact hc4 (m * 7 + 2) _ ((hat 2 (by omega)).trans rfl)
                            have u3 : wz.cell? ⟨g4, o4 + m * 7 + 3, none⟩ = some (.int .i64 b) := by rw [Nat.add_assoc]; exact hc4 (m * 7 + 3) _ ((hat 3 (by omega)).trans rfl)
                            have u4 : wz.cell? ⟨g4, o4 + m * 7 + 4, none⟩ = some (.int .i64 c) := by rw [Nat.add_assoc]; exact hc4 (m * 7 + 4) _ ((hat 4 (by omega)).trans rfl)
                            have u5 : wz.cell? ⟨g4, o4 + m * 7 + 5, none⟩ = some (.int .i64 n) := by rw [Nat.add_assoc]; exact hc4 (m * 7 + 5) _ ((hat 5 (by omega)).trans rfl)
                            have u6 : wz.cell? ⟨g4, o4 + m * 7 + 6, none⟩ = some (.int .i64 g) := by rw [Nat.add_assoc]; exact hc4 (m * 7 + 6) _ ((hat 6 (by omega)).trans rfl)
                            obtain ⟨oe, hoer⟩ : ∃ e, e = opErr U ⟨k, d, a, b, c, n, g⟩ := ⟨_, rfl⟩
                            have kop := fun (W : World) => rop_any (w := W) (Av := Av) (cv := cv) (Ab := some ⟨g2, o2, none⟩) (cb := cb) U ⟨k, d, a, b, c, n, g⟩ hz1 hz2 gsp
                            rw [← hoer] at hN3 hB3 kop
                            unfold unV opV at kop
                            simp only at kop
                            have KOP := Lib.hid kop
                            have HN3 := Lib.hid hN3
                            have HB3 := Lib.hid hB3
                            have HBZ3 := Lib.hid hbz3
                            clear kop hN3 hB3 hoer hoe hat hc4 hh hbz3 hqz hez hml
                            go_upto_region 23 with fail
                            go_cut [10] (fun v10 wx => v10 = .int .i64 oe ∧ Below wz.heap.size wz wx)
                            case first => as_aux_lemma =>
                              go_region_held3 (fun w' => w'.cell? ⟨w.heap.size, 0, none⟩ = some (.slice Av U.sizes.length cv) ∧ w'.cell? ⟨w.heap.size, 1, none⟩ = some (.int .i64 U.params) ∧ w'.cell? ⟨w.heap.size, 2, none⟩ = some (.int .i64 U.regs) ∧ w'.cell? ⟨w.heap.size, 3, none⟩ = some (.int .i64 U.code) ∧ w'.cell? ⟨w.heap.size, 4, none⟩ = some (.int .i64 U.spill) ∧ w'.cell? ⟨w.heap.size, 5, none⟩ = some (.slice (some ⟨g2, o2, none⟩) U.blocks.length cb) ∧ w'.cell? ⟨wo.heap.size, 0, none⟩ = some (.slice (some ⟨g4, o4, none⟩) no co) ∧ w'.cell? ⟨g4, o4 + m * 7, none⟩ = some (.int .i64 k) ∧ w'.cell? ⟨g4, o4 + m * 7 + 1, none⟩ = some (.int .i64 d) ∧ w'.cell? ⟨g4, o4 + m * 7 + 2, none⟩ = some (.int .i64 a) ∧ w'.cell? ⟨g4, o4 + m * 7 + 3, none⟩ = some (.int .i64 b) ∧ w'.cell? ⟨g4, o4 + m * 7 + 4, none⟩ = some (.int .i64 c) ∧ w'.cell? ⟨g4, o4 + m * 7 + 5, none⟩ = some (.int .i64 n) ∧ w'.cell? ⟨g4, o4 + m * 7 + 6, none⟩ = some (.int .i64 g)) (first | exact ⟨q0, q1, q2, q3, q4, q5, e0, u0, u1, u2, u3, u4, u5, u6⟩ | exact ⟨k0, k1, k2, k3, k4, k5, j0, y0, y1, y2, y3, y4, y5, y6⟩ | (go_keep; done))
                                (first | (go_at_call 89; (with_reducible refine (KOP.out _).mono ?_); rintro x w3 ⟨rfl, hb⟩; (have k0 := (hb.cell (p := ⟨w.heap.size, 0, none⟩) (lt_cell q0)).trans q0); (have k1 := (hb.cell (p := ⟨w.heap.size, 1, none⟩) (lt_cell q1)).trans q1); (have k2 := (hb.cell (p := ⟨w.heap.size, 2, none⟩) (lt_cell q2)).trans q2); (have k3 := (hb.cell (p := ⟨w.heap.size, 3, none⟩) (lt_cell q3)).trans q3); (have k4 := (hb.cell (p := ⟨w.heap.size, 4, none⟩) (lt_cell q4)).trans q4); (have k5 := (hb.cell (p := ⟨w.heap.size, 5, none⟩) (lt_cell q5)).trans q5); (have j0 := (hb.cell (p := ⟨wo.heap.size, 0, none⟩) (lt_cell e0)).trans e0); (have y0 := (hb.cell (p := ⟨g4, o4 + m * 7, none⟩) (lt_cell u0)).trans u0); (have y1 := (hb.cell (p := ⟨g4, o4 + m * 7 + 1, none⟩) (lt_cell u1)).trans u1); (have y2 := (hb.cell (p := ⟨g4, o4 + m * 7 + 2, none⟩) (lt_cell u2)).trans u2); (have y3 := (hb.cell (p := ⟨g4, o4 + m * 7 + 3, none⟩) (lt_cell u3)).trans u3); (have y4 := (hb.cell (p := ⟨g4, o4 + m * 7 + 4, none⟩) (lt_cell u4)).trans u4); (have y5 := (hb.cell (p := ⟨g4, o4 + m * 7 + 5, none⟩) (lt_cell u5)).trans u5); (have y6 := (hb.cell (p := ⟨g4, o4 + m * 7 + 6, none⟩) (lt_cell u6)).trans u6); have HBO3 := Lib.hid hb; clear hb))
                              all_goals
                                go_wp2
                                go_meet
                                exact ⟨rfl, Below.mono (w := wz) (B' := wz.heap.size) ⟨HBO3.out.os, HBO3.out.tape, HBO3.out.output, HBO3.out.size, HBO3.out.block⟩ (Nat.le_refl _)⟩
                            case rest =>
                              obtain ⟨rfl, hbx3⟩ := hcut
                              by_cases h0 : oe = 0
                              · subst h0
                                have HBX3 := Lib.hid hbx3
                                have HX4 := Lib.hid (HN3.out rfl)
                                clear hbx3
                                go_wp2
                                go_roundw
                                case rel => exact ⟨m + 1, by omega, by go_num, HBZ3.out.trans (HBX3.out.mono HBZ3.out.size), HX4⟩
                                case measure => simp [intOf]; omega
                              · have hE : E = oe := by
                                  have e : eB = oe := by
                                    rw [HEBE.out]; unfold blErr
                                    have h1 : firstE (bops.map (opErr U)) = oe := HB1.out.symm.trans (HB3.out h0)
                                    rw [if_neg (fun h => h HCT.out), if_neg (by rw [← HNO.out]; omega), if_pos (by rw [h1]; exact h0), h1]
                                  have := HBD.out (by rw [e]; exact h0)
                                  rw [this, e]
                                subst hE
                                have hne : (E != 0) = true := by simpa using h0
                                clear h0
                                go_wp2
                                refine bodyPost_ret (v := .tuple #[.int .i64 E, .int .i64 i, .int .i64 m]) (by simp [results, Tryd.results73, go_sem]) rfl ?_
                                first | exact ⟨_, _, rfl, H0.out.trans ((HBX.out.trans ((HBW.out.trans ((HBZ3.out.trans (hbx3.mono HBZ3.out.size)).mono HBW.out.size)).mono HBX.out.size)).mono H0.out.size)⟩ | exact ⟨⟨_, _, rfl⟩, H0.out.trans ((HBX.out.trans ((HBW.out.trans ((HBZ3.out.trans (hbx3.mono HBZ3.out.size)).mono HBW.out.size)).mono HBX.out.size)).mono H0.out.size)⟩
                          · obtain rfl : m = no := by omega
                            have hB0 : B1 = 0 := firstE_end (opErr U) bops m (by rw [← HNO.out]; exact Nat.le_refl _) _ HFO.out
                            obtain ⟨ee, hee⟩ : ∃ e, e = edErr U ⟨ek, ea, et, el⟩ := ⟨_, rfl⟩
                            have hEe : eB = ee := by
                              rw [HEBE.out, hee]; unfold blErr
                              have h1 : firstE (bops.map (opErr U)) = 0 := HB1.out.symm.trans hB0
                              rw [if_neg (fun h => h HCT.out), if_neg (by rw [← HNO.out]; omega), if_neg (fun h => h h1)]
                            have ken := fun (W : World) => rend_any (w := W) (Av := Av) (cv := cv) (Ab := some ⟨g2, o2, none⟩) (cb := cb) U ⟨ek, ea, et, el⟩
                            rw [← hee] at ken
                            unfold unV edV at ken
                            simp only at ken
                            have KEN := Lib.hid ken
                            have HEE := Lib.hid hEe
                            have HBZ3 := Lib.hid hbz3
                            clear ken hEe hee hB0 hbz3 hqz hez
                            by_cases h0 : ee = 0
                            · subst h0
                              have HX4 := Lib.hid (HNX.out HEE.out)
                              go_wp2_with (go_at_call 90; (with_reducible refine (KEN.out _).mono ?_); rintro x w3 ⟨rfl, hb⟩; have e0b := (hb.cell (p := ⟨wo.heap.size, 0, none⟩) (lt_cell e0)).trans e0; have HB4 := Lib.hid hb; clear hb)
                              go_roundw
                              case rel => exact ⟨i + 1, by omega, by go_num, by rw [HS1.out]; go_num, by rw [HS1.out]; omega, HBW.out.trans ((HBZ3.out.trans (HB4.out.mono HBZ3.out.size)).mono HBW.out.size), HX4⟩
                              case measure => simp [intOf]; omega
                            · have hE : E = ee := by
                                have := HBD.out (by rw [HEE.out]; exact h0)
                                rw [this, HEE.out]
                              subst hE
                              have hne : (E != 0) = true := by simpa using h0
                              clear h0
                              go_wp2_with (go_at_call 90; (with_reducible refine (KEN.out _).mono ?_); rintro x w3 ⟨rfl, hb⟩; have e0b := (hb.cell (p := ⟨wo.heap.size, 0, none⟩) (lt_cell e0)).trans e0; have HB4 := Lib.hid hb; clear hb)
                              go_quiet (fail)
                              go_wp2
                              refine bodyPost_ret (v := .tuple #[.int .i64 E, .int .i64 i, .int .i64 m]) (by simp [results, Tryd.results73, go_sem]) rfl ?_
                              first | exact ⟨_, _, rfl, H0.out.trans ((HBX.out.trans ((HBW.out.trans ((HBZ3.out.trans ((drewN_below HB4.out _).mono HBZ3.out.size)).mono HBW.out.size)).mono HBX.out.size)).mono H0.out.size)⟩ | exact ⟨⟨_, _, rfl⟩, H0.out.trans ((HBX.out.trans ((HBW.out.trans ((HBZ3.out.trans ((drewN_below HB4.out _).mono HBZ3.out.size)).mono HBW.out.size)).mono HBX.out.size)).mono H0.out.size)⟩
                    · have hct := of_decide_eq_true HF1.out.symm
                      have hE : E = 2 := by
                        have e : eB = 2 := by
                          rw [HEBE.out]; unfold blErr
                          rw [if_pos]
                          rintro (h | h)
                          · simp only at h; omega
                          · have h1 := h.1; have h2 := h.2; simp only at h1 h2; omega
                        have := HBD.out (by rw [e]; decide)
                        rw [this, e]
                      subst hE
                      clear hct
                      go_wp2
                      go_quiet (fail)
                      go_wp2
                      refine bodyPost_ret (v := .tuple #[.int .i64 2, .int .i64 i, .int .i64 no]) (by simp [results, Tryd.results73, go_sem]) rfl ?_
                      first | exact ⟨_, _, rfl, H0.out.trans ((HBX.out.trans ((drewN_below HBW.out _).mono HBX.out.size)).mono H0.out.size)⟩ | exact ⟨⟨_, _, rfl⟩, H0.out.trans ((HBX.out.trans ((drewN_below HBW.out _).mono HBX.out.size)).mono H0.out.size)⟩
                · obtain rfl : i = U.blocks.length := by omega
                  have hT0 : T = 0 := firstE_end (blErr U) U.blocks _ (Nat.le_refl _) _ HFE.out
                  rw [List.take_length] at hs
                  rw [List.take_length]
                  obtain ⟨sm, hsm⟩ : ∃ sm, sm = opsSum U.blocks := ⟨_, rfl⟩
                  rw [← hsm] at hs
                  rw [← hsm]
                  have hE : E = if 20000 < sm then 3 else 0 := by
                    rw [HET.out, hsm]; unfold tailErr
                    rw [if_neg (fun h => h (HT.out.symm.trans hT0))]
                  have HBZ := Lib.hid hbz
                  clear hT0 hsm hbz
                  by_cases hbig : 20000 < sm
                  · rw [if_pos hbig] at hE
                    subst hE
                    have hbI : (20000 : Int) < sm := by omega
                    clear hbig
                    go_wp2
                    refine bodyPost_ret (v := .tuple #[.int .i64 3, .int .i64 0, .int .i64 0]) (by simp [results, Tryd.results73, go_sem]) rfl ?_
                    first | exact ⟨_, _, rfl, H0.out.trans ((HBX.out.trans (HBZ.out.mono HBX.out.size)).mono H0.out.size)⟩ | exact ⟨⟨_, _, rfl⟩, H0.out.trans ((HBX.out.trans (HBZ.out.mono HBX.out.size)).mono H0.out.size)⟩
                  · rw [if_neg hbig] at hE
                    subst hE
                    have hbI : ¬ (20000 : Int) < sm := by omega
                    clear hbig
                    go_wp2
                    refine bodyPost_ret (v := .tuple #[.int .i64 0, .int .i64 0, .int .i64 0]) (by simp [results, Tryd.results73, go_sem]) rfl ?_
                    first | exact ⟨_, _, rfl, H0.out.trans ((HBX.out.trans (HBZ.out.mono HBX.out.size)).mono H0.out.size)⟩ | exact ⟨⟨_, _, rfl⟩, H0.out.trans ((HBX.out.trans (HBZ.out.mono HBX.out.size)).mono H0.out.size)⟩
            · have hE2 : E = 2 := by
                have h := of_decide_eq_true HF8.out.symm
                rw [HE.out]
                unfold unErr
                rw [if_neg HN1.out, if_neg HN2.out, if_pos]
                rintro ⟨a1, a2, a3, a4, a5, a6⟩
                rcases h with h | h | h | h | h | h
                · omega
                · omega
                · omega
                · omega
                · omega
                · exact h a6
              subst hE2
              go_wp2
              refine bodyPost_ret (v := .tuple #[.int .i64 2, .int .i64 0, .int .i64 0]) (by simp [results, Tryd.results73, go_sem]) rfl ?_
              exact ⟨0, 0, rfl, H0.out.trans (hbx.mono H0.out.size)⟩
    · have hE3 : E = 3 := by
        have h := of_decide_eq_true HFL.out.symm
        rw [HE.out]
        unfold unErr
        rw [if_pos (by omega)]
      subst hE3
      go_wp2
      refine bodyPost_ret (v := .tuple #[.int .i64 3, .int .i64 0, .int .i64 0]) (by simp [results, Tryd.results73, go_sem]) rfl ?_
      exact ⟨0, 0, rfl, H0.out⟩
end Go.Proofs.YtfkjkdoloamakaaDoor
