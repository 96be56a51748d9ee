/- What step of package run does: the state is St.step. -/
import Derived.Test.YtfkjkdoloamakaaDoorRo
import Derived.Test.YtfkjkdoloamakaaDoorMd
namespace Go.Proofs.YtfkjkdoloamakaaDoor
open Go.RowKit
set_option linter.unusedVariables false
set_option linter.unusedSimpArgs false
variable {F : Nat → Prop} {w0 w : World} {M0 : Nat → Prop} {p : Nat} {U : UnS} {s : St}

theorem rdo_any (S : StGood U s) (G : UnGood U) (E : EngX layP F w0 M0 w p U s) (V : Env w) (o : OpI) (hO : OpGood U o) :
    Calls Tryd.prog 78 #[.pointer (some ⟨p, 0, none⟩), opV o] w (ActR F w0 M0 p U (s.doR o)) := by
  obtain ⟨k, d, a, b, c, n, g⟩ := o
  have hT : known k = true → doT k (s.reg a) (s.reg b) (s.reg c) = doT0 k (s.reg a) (s.reg b) := fun h => by simp [doT, h, fm_reg3 S]
  have hV : known k = true → doV k n (s.reg a) (s.reg b) (s.reg c) = doV0 k n (s.reg a) (s.reg b) (s.reg c) := fun h => by simp [doV, h, fm_reg3 S]
  have hE : known k = true → doE k (s.reg a) (s.reg b) (s.reg c) = 0 := fun h => by simp [doE, h, fm_reg3 S]
  by_cases hg : g = -1
  · subst hg
    by_cases hk : known k = true
    · by_cases ht : doT0 k (s.reg a) (s.reg b) = 0
      · exact ActR_to (by simp only [St.doR]; rw [if_neg (by simp), if_neg (by simp), if_pos hk, if_neg (by simp [ht])]) (rdo_none_ok S G E V k d a b c n hO (doV0 k n (s.reg a) (s.reg b) (s.reg c)).1 (doV0 k n (s.reg a) (s.reg b) (s.reg c)).2 (hV hk) ((hT hk).trans ht) (hE hk))
      · exact ActR_to (by simp only [St.doR]; rw [if_neg (by simp), if_neg (by simp), if_pos hk, if_pos ht]) (rdo_none_trap S G E V k d a b c n hO (doV0 k n (s.reg a) (s.reg b) (s.reg c)).1 (doV0 k n (s.reg a) (s.reg b) (s.reg c)).2 _ (hV hk) (hT hk) (hE hk) ht)
    · exact ActR_to (by simp [St.doR, hk]) (rdo_none_act S G E V k d a b c n hO (Bool.eq_false_iff.mpr hk))
  · by_cases hg2 : (s.reg g).2 = 0
    · by_cases hg1 : (s.reg g).1 = 0
      · exact ActR_to (by simp [St.doR, hg, hg2, hg1]) (rdo_zero S G E V k d a b c n g hO hg hg2 hg1)
      · by_cases hk : known k = true
        · by_cases ht : doT0 k (s.reg a) (s.reg b) = 0
          · exact ActR_to (by simp only [St.doR]; rw [if_neg (by simp [hg2]), if_neg (by simp [hg1]), if_pos hk, if_neg (by simp [ht])]) (rdo_some_ok S G E V k d a b c n g hO hg hg2 hg1 (doV0 k n (s.reg a) (s.reg b) (s.reg c)).1 (doV0 k n (s.reg a) (s.reg b) (s.reg c)).2 (hV hk) ((hT hk).trans ht) (hE hk))
          · exact ActR_to (by simp only [St.doR]; rw [if_neg (by simp [hg2]), if_neg (by simp [hg1]), if_pos hk, if_pos ht]) (rdo_some_trap S G E V k d a b c n g hO hg hg2 hg1 (doV0 k n (s.reg a) (s.reg b) (s.reg c)).1 (doV0 k n (s.reg a) (s.reg b) (s.reg c)).2 _ (hV hk) (hT hk) (hE hk) ht)
        · exact ActR_to (by simp [St.doR, hk, hg, hg1, hg2]) (rdo_some_act S G E V k d a b c n g hO hg hg2 hg1 (Bool.eq_false_iff.mpr hk))
    · exact ActR_to (by simp [St.doR, hg, hg2]) (rdo_bad S G E V k d a b c n g hO hg _ rfl hg2)

theorem code_F {vb : Value} {bs : List BlkS} (h : RdBlocks F w vb bs) {i : Nat} (hi : i < bs.length) {g o c : Nat} (e : vb = .slice (some ⟨g, o, none⟩) bs.length c) : F g := by
  obtain ⟨vs, hl, ⟨_, A0, c0, e0, _, _, h1⟩, h2⟩ := h
  obtain ⟨g1, o1, rfl, hF, _, hc⟩ := h1 (by omega)
  rw [e] at e0
  injection e0 with e1
  injection e1 with e1
  injection e1 with e1
  rw [e1]; exact hF
theorem code_F2 {vb : Value} {bs : List BlkS} (h : RdBlocks F w vb bs) {i : Nat} (hi : i < bs.length) {g o c : Nat} (e : vb = .slice (some ⟨g, o, none⟩) bs.length c) {g' o' n cc : Nat} (hc : w.cell? ⟨g, o + i * 6, none⟩ = some (.slice (some ⟨g', o', none⟩) n cc)) (hn : 0 < (bs.getD i dBl).ops.length) : F g' := by
  obtain ⟨vs, hl, ⟨_, A0, c0, e0, _, _, h1⟩, h2⟩ := h
  obtain ⟨g1, o1, rfl, hF, _, hcc⟩ := h1 (by omega)
  rw [e] at e0
  injection e0 with e1
  injection e1 with e1
  injection e1 with e1 e2
  subst e1 e2
  have hb := blsC_at vs bs hl i hi 0 (by omega)
  have := hcc (i * 6 + 0) _ (hb.trans rfl)
  rw [← Nat.add_assoc, Nat.add_zero, hc] at this
  injection this with this
  obtain ⟨ho, A, c', e3, _, _, h3⟩ := h2 i hi
  rw [← this] at e3
  have eb : bs[i] = bs.getD i dBl := by rw [List.getD_eq_getElem?_getD, List.getElem?_eq_getElem hi]; rfl
  rw [eb] at h3
  obtain ⟨g2, o2, rfl, hF2, _⟩ := h3 hn
  injection e3 with e4
  injection e4 with e4
  injection e4 with e4
  rw [e4]; exact hF2
theorem EngQ.off {L : EngL} (Q : EngQ layP F w0 M0 w p U s L) {g : Nat} (h : F g) : g ≠ p := fun e => Q.e.away g h (.inl e)

/-- what a step does, of a place of a block -/
theorem step_leave (S : StGood U s) (G : UnGood U) (E : EngX layP F w0 M0 w p U s) (hs : s.steps < 1000000000000) (he : s.pc = (U.blocks.getD s.bl dBl).ops.length) :
    Calls Tryd.prog 52 #[.pointer (some ⟨p, 0, none⟩)] w fun e w' => e = .returned (.tuple #[]) ∧ EngX layP F w0 M0 w' p U (s.step U) := by
  have HN := Lib.hid (show s.step U = ({ s with steps := s.steps + 1 } : St).leave U (U.blocks.getD s.bl dBl).ed by simp only [St.step]; rw [if_pos he])
  have HL := Lib.hid fun (w' : World) (E' : EngX layP F w0 M0 w' p U { s with steps := s.steps + 1 }) => leave_any (S.count hs) G E' (U.blocks.getD s.bl dBl).ed (S.blk G).ed
  obtain ⟨L, Q⟩ := E
  obtain ⟨g, o, c, A, nn, cc, eb, en, c0, c1, c2, c3, c4, _, _⟩ := code_at Q.e.code s.bl S.bl
  have h5 := P5 Q.e
  rw [eb] at h5
  have h10 := P10 Q.e
  have h11 := P11 Q.e
  have h12 := P12 Q.e
  have f12 := Q.e.blk.frozen 12
  have hbl := S.bl
  have hmb := G.mb
  have hst := S.st0
  have hpn : nn ≤ 400 := by rw [en]; exact (S.blk G).len
  rw [← en] at he
  obtain ⟨pc, hpc⟩ : ∃ pc, pc = s.pc := ⟨_, rfl⟩
  rw [← hpc] at he h11
  clear hpc en
  subst he
  have hpg : g ≠ p := Q.off (code_F Q.e.code S.bl eb)
  have hpg' := hpg.symm
  obtain ⟨ed, hed⟩ : ∃ ed, ed = (U.blocks.getD s.bl dBl).ed := ⟨_, rfl⟩
  rw [← hed] at c1 c2 c3 c4 HL HN
  obtain ⟨ek, ea, et, el⟩ := ed
  simp only at c1 c2 c3 c4
  have HQ := Lib.hid Q
  clear Q S G hed eb
  go_enter Tryd.func52, Tryd.ntmps52
  go_wp2
  go_quiet (fail)
  go_wp2
  go_quiet (fail)
  go_wp2_with (go_at_call 77; refine (HL.out _ ((HQ.out.stepsP _).drewN _).x).mono ?_; rintro e w' ⟨rfl, E'⟩)
  first | go_end0 | refine bodyPost_ret (results_none rfl _ _ _) rfl ?_
  rw [HN.out]
  exact ⟨rfl, E'⟩

set_option maxRecDepth 100000 in
set_option maxHeartbeats 4000000 in
theorem step_do (S : StGood U s) (G : UnGood U) (E : EngX layP F w0 M0 w p U s) (V : Env w0) (hM : ¬ M0 0) (hs : s.steps < 1000000000000) (he : s.pc < (U.blocks.getD s.bl dBl).ops.length) :
    Calls Tryd.prog 52 #[.pointer (some ⟨p, 0, none⟩)] w fun e w' => e = .returned (.tuple #[]) ∧ EngX layP F w0 M0 w' p U (s.step U) := by
  have S1 := S.count hs
  have hO := S.op G he
  have hp : (({ s with steps := s.steps + 1 } : St).prints.length : Int) < ({ s with steps := s.steps + 1 } : St).steps := by
    have := S.pr; show (s.prints.length : Int) < s.steps + 1; omega
  have S2 := S1.doR hp _ hO
  have hN : s.step U = (let r := St.doR { s with steps := s.steps + 1 } ((U.blocks.getD s.bl dBl).ops.getD s.pc dOp); if r.2.1 ≠ 0 then r.1.trap U r.2.1 else if r.2.2 then r.1 else { r.1 with pc := r.1.pc + 1 }) := by
    simp only [St.step]; rw [if_neg (by omega)]
  have HD := fun (w' : World) (E' : EngX layP F w0 M0 w' p U { s with steps := s.steps + 1 }) => rdo_any S1 G E' (E'.env V hM) _ hO
  have HP := fun h => (St.doR_same { s with steps := s.steps + 1 } ((U.blocks.getD s.bl dBl).ops.getD s.pc dOp) h).2
  obtain ⟨L, Q⟩ := E
  obtain ⟨g, o, c, A, nn, cc, eb, en, c0, c1, c2, c3, c4, _, hops⟩ := code_at Q.e.code s.bl S.bl
  have hpn : nn ≤ 400 := by rw [en]; exact (S.blk G).len
  obtain ⟨g', o', rfl, d0, d1, d2, d3, d4, d5, d6⟩ := hops s.pc (by omega)
  have hpg : g ≠ p := Q.off (code_F Q.e.code S.bl eb)
  have hpg2 : g' ≠ p := Q.off (code_F2 Q.e.code S.bl eb c0 (by omega))
  have hpg' := hpg.symm
  have hpg2' := hpg2.symm
  have h5 := P5 Q.e
  rw [eb] at h5
  have h10 := P10 Q.e
  have h11 := P11 Q.e
  have h12 := P12 Q.e
  have f12 := Q.e.blk.frozen 12
  have hbl := S.bl
  have hmb := G.mb
  have hst := S.st0
  have he' : s.pc < nn := by omega
  have hpcb : s.pc ≤ 400 := by omega
  obtain ⟨op, hop⟩ : ∃ op, op = (U.blocks.getD s.bl dBl).ops.getD s.pc dOp := ⟨_, rfl⟩
  rw [← hop] at d0 d1 d2 d3 d4 d5 d6 HD HP hN S2
  obtain ⟨k, od, oa, ob, oc, on, og⟩ := op
  simp only at d0 d1 d2 d3 d4 d5 d6
  obtain ⟨r, hr⟩ : ∃ r, r = St.doR { s with steps := s.steps + 1 } ⟨k, od, oa, ob, oc, on, og⟩ := ⟨_, rfl⟩
  rw [← hr] at HD HP hN S2
  clear hr hop
  obtain ⟨s2, t, l⟩ := r
  simp only at HD HP hN S2
  obtain ⟨pc, hpc⟩ : ∃ pc, pc = s.pc := ⟨_, rfl⟩
  rw [← hpc] at d0 d1 d2 d3 d4 d5 d6 h11 he' hpcb HP
  have HN := Lib.hid hN
  have HDD := Lib.hid HD
  have HQ := Lib.hid Q
  have HS2 := Lib.hid S2
  have HG := Lib.hid G
  have HPP := Lib.hid HP
  clear Q S S1 S2 G eb HD HP hN he hO hp c1 c2 c3 c4 en hpc
  by_cases ht : t = 0
  · subst ht
    cases l
    · have hpc2 : s2.pc = pc := HPP.out rfl
      go_enter Tryd.func52, Tryd.ntmps52
      go_wp2
      go_quiet (fail)
      go_wp2
      go_quiet (fail)
      go_wp2
      go_region_with (first | (go_at_call 78; refine (HDD.out _ ((HQ.out.stepsP _).drewN _).x).mono ?_; rintro e w2 ⟨rfl, E2⟩))
      all_goals
        simp only [Act.put, List.setIfInBounds_toArray, List.set_cons_zero, List.set_cons_succ]
        obtain ⟨L2, Q2⟩ := E2
        have h11b := P11 Q2.e
        have f11b := Q2.e.blk.frozen 11
        rw [hpc2] at h11b
        have HQ2 := Lib.hid Q2
        clear Q2
        go_wp2
        first | go_end0 | refine bodyPost_ret (results_none rfl _ _ _) rfl ?_
        rw [HN.out]
        rw [hpc2]
        exact ⟨rfl, (HQ2.out.pcP (pc + 1)).x⟩
    · go_enter Tryd.func52, Tryd.ntmps52
      go_wp2
      go_quiet (fail)
      go_wp2
      go_quiet (fail)
      go_wp2
      go_region_with (first | (go_at_call 78; refine (HDD.out _ ((HQ.out.stepsP _).drewN _).x).mono ?_; rintro e w2 ⟨rfl, E2⟩))
      all_goals
        simp only [Act.put, List.setIfInBounds_toArray, List.set_cons_zero, List.set_cons_succ]
        go_wp2
        first | go_end0 | refine bodyPost_ret (results_none rfl _ _ _) rfl ?_
        rw [HN.out]
        exact ⟨rfl, E2⟩
  · have htb : (t == 0) = false := by simpa using ht
    go_enter Tryd.func52, Tryd.ntmps52
    go_wp2
    go_quiet (fail)
    go_wp2
    go_quiet (fail)
    go_wp2
    go_region_with (first | (go_at_call 78; refine (HDD.out _ ((HQ.out.stepsP _).drewN _).x).mono ?_; rintro e w2 ⟨rfl, E2⟩))
    all_goals
      simp only [Act.put, List.setIfInBounds_toArray, List.set_cons_zero, List.set_cons_succ]
      go_wp2_with (go_at_call 79; refine (trap_any HG.out HS2.out E2 t).mono ?_; rintro e w3 ⟨rfl, E3⟩)
      first | go_end0 | refine bodyPost_ret (results_none rfl _ _ _) rfl ?_
      rw [HN.out]
      rw [if_pos ht]
      exact ⟨rfl, E3⟩
end Go.Proofs.YtfkjkdoloamakaaDoor
