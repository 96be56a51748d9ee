/- enter, end and trap of the specification's Engine: the state is St.enter, St.trap. -/
import Derived.Test.YtfkjkdoloamakaaDoorTg
namespace Go.Proofs.YtfkjkdoloamakaaDoor
open Go.RowKit
set_option linter.unusedVariables false
set_option linter.unusedSimpArgs false
variable {F : Nat → Prop} {w0 w : World} {M0 : Nat → Prop} {p : Nat} {U : UnS} {s : St}

set_option maxRecDepth 100000 in
set_option maxHeartbeats 1000000 in
theorem renter_any (E : EngX layR F w0 M0 w p U s) (b : Int) (h0 : 0 ≤ b) (h1 : b < s.seen.length) (hw : s.ways.length ≤ 20000) (h2 : s.seen.length ≤ 2000) :
    Calls Tryd.prog 53 #[.pointer (some ⟨p, 0, none⟩), .int .i64 b] w fun e w' => e = .returned (.tuple #[]) ∧ EngX layR F w0 M0 w' p U (s.enter b.toNat) := by
  obtain ⟨L, Q⟩ := E
  obtain ⟨A, c, hvw⟩ := own_shape Q.e.ways
  have h9 := S9 Q.e
  have h10 := S10 Q.e
  have h17 := S17 Q.e
  have h16 := S16 Q.e
  rw [hvw] at h17
  have f9 := Q.e.blk.frozen 9
  have f10 := Q.e.blk.frozen 10
  have f17 := Q.e.blk.frozen 17
  have fs := Q.e.seen.frozen (b.toNat * 3)
  obtain ⟨x, hx, hxe⟩ := seen0 Q.e h0 h1
  have hne : p ≠ L.gs := Q.e.blk.ne_ Q.e.seen (by decide)
  have hne' : L.gs ≠ p := hne.symm
  have hcast : ((b.toNat : Nat) : Int) = b := Int.toNat_of_nonneg h0
  have Q1 : EngQ layR F w0 M0 (((w.setCell ⟨p, 9, none⟩ (.int .i64 b)).setCell ⟨p, 10, none⟩ (.int .i64 0)).setCell ⟨L.gs, b.toNat * 3, none⟩ (.int .i64 (wrap64 (x + 1)))) p U { s with bl := b.toNat, pc := 0, seen := s.seen.modify b.toNat (fun y => (wrap64 (y.1 + 1), y.2)) } L := by
    have q1 : EngQ layR F w0 M0 ((w.setCell ⟨p, 9, none⟩ (.int .i64 b)).setCell ⟨p, 10, none⟩ (.int .i64 0)) p U { s with bl := b.toNat, pc := 0 } L :=
      Q.newP okR (Fr.two _ _ _ _ _ _) (by
        have hb := (Q.e.blk.set_ 9 (.int .i64 b)).set_ 10 (.int .i64 0)
        rw [← hcast] at hb ⊢
        exact hb) rfl rfl rfl rfl rfl rfl
    exact q1.newSeen okR _ _ _ (by simp) (by rw [cntC_set0, hxe])
  have hsz : L.gs < w.heap.size := Q.e.seen.lt
  by_cases hn : s.ways.length < 20000
  · obtain ⟨i0, hi, hz0, hz1, hz2⟩ := info_parts int_info
    have HN := Lib.hid (show s.enter b.toNat = { s with bl := b.toNat, pc := 0, seen := s.seen.modify b.toNat (fun y => (wrap64 (y.1 + 1), y.2)), ways := s.ways ++ [(b.toNat : Int)] } by simp only [St.enter, hn, if_true])
    have HC := Lib.hid hcast
    have HV := Lib.hid hvw
    have HQ := Lib.hid Q1
    clear Q1 hxe hcast hvw Q
    go_enter Tryd.func53, Tryd.ntmps53
    go_wp2_with (at_builtin; go_must (refine wpList_append_own_at _ rfl (.tmp 32) (.tmp 34) 22 rfl 0 3 i0 (.int .i64 0) 1 8 Tryd.underlying22 hi hz0 hz1 hz2 rfl (by decide) (.slice A s.ways.length c) s.ways.length (numV s.ways) rfl ?co ⟨w.heap.size, 0, none⟩ 1 1 [.int .i64 b] rfl rfl ?c1 ?c2 ?c3 ?c4 ?c5 ?_; (case co => (rw [← HV.out]; exact ((HQ.out).alloc _).e.ways)); (case c1 => exact cell_new _ _ (by simp) _ _); (case c2 => exact one_mem rfl); (case c3 => (unfold maxLen; omega)); (case c4 => omega); (case c5 => exact Nat.zero_le _); intro v' w1 hown1 hg1 _hx hat1; obtain ⟨A1, c1, rfl⟩ := own_shape hown1; rw [← HV.out] at hg1 hat1; have hp1 := (HQ.out.alloc _).e.blk_ways okR hg1; have c17 : w1.cell? ⟨p, 17, none⟩ = some L.vw := (hp1.cell 17).trans rfl; have f171 := hp1.frozen 17; have HO1 := Lib.hid hown1; have HG1 := Lib.hid hg1; have HA1 := Lib.hid hat1; clear hown1 hg1 hat1 hp1 _hx))
    go_end0
    refine ⟨rfl, ?_⟩
    rw [HN.out]
    have ho : w1.ownsRow 0 3 1 (.slice A1 (s.ways.length + 1) c1) (s.ways ++ [(b.toNat : Int)]).length (numV (s.ways ++ [(b.toNat : Int)])) := by
      have := HO1.out
      rw [HC.out]
      simpa [numV] using this
    refine ((HQ.out.alloc _).newWays okR HG1.out ho ?_).x
    rcases HA1.out with h | h
    · exact .inl h
    · exact .inr ⟨_, h, Nat.le_refl _⟩
  · have HN := Lib.hid (show s.enter b.toNat = { s with bl := b.toNat, pc := 0, seen := s.seen.modify b.toNat (fun y => (wrap64 (y.1 + 1), y.2)) } by simp only [St.enter, hn, if_false])
    have HQ := Lib.hid Q1
    clear Q1 hxe hcast hvw Q
    go_enter Tryd.func53, Tryd.ntmps53
    go_wp2
    go_end0
    rw [HN.out]
    exact ⟨rfl, HQ.out.x⟩

set_option maxRecDepth 100000 in
set_option maxHeartbeats 1000000 in
theorem rendE_any (E : EngX layR F w0 M0 w p U s) (k v : Int) (hk : k = 1 ∨ k = 2) :
    Calls Tryd.prog 85 #[.pointer (some ⟨p, 0, none⟩), .int .i64 k, .int .i64 v] w fun e w' => e = .returned (.tuple #[]) ∧ EngX layR F w0 M0 w' p U { s with kind := k, val := v } := by
  obtain ⟨L, Q⟩ := E
  have f13 := Q.e.blk.frozen 13
  have f14 := Q.e.blk.frozen 14
  have f15 := Q.e.blk.frozen 15
  have h13 := S13 Q.e
  have h14 := S14 Q.e
  have h15 := S15 Q.e
  obtain ⟨kd, hkd⟩ : ∃ x, x = kindO s.kind := ⟨_, rfl⟩
  obtain ⟨bd, hbd⟩ : ∃ x, x = decide (s.kind ≠ 0) := ⟨_, rfl⟩
  rw [← hkd] at h13
  rw [← hbd] at h15
  have HQ := Lib.hid Q
  have HK := Lib.hid hk
  clear Q hk hkd hbd
  go_enter Tryd.func85, Tryd.ntmps85
  go_wp2
  go_end0
  exact ⟨rfl, (HQ.out.endR k v HK.out).x⟩

set_option maxRecDepth 100000 in
set_option maxHeartbeats 1000000 in
theorem rtrap_any (G : UnGood U) (S : StGood U s) (E : EngX layR F w0 M0 w p U s) (n : Int) :
    Calls Tryd.prog 80 #[.pointer (some ⟨p, 0, none⟩), .int .i64 n] w fun e w' => e = .returned (.tuple #[]) ∧ EngX layR F w0 M0 w' p U (s.trap U n) := by
  obtain ⟨L, Q⟩ := E
  obtain ⟨g, o, c, A, nn, cc, eb, _, _, _, _, _, _, c5, _⟩ := code_at Q.e.code s.bl S.bl
  have h5 := S5 Q.e
  rw [eb] at h5
  have h9 := S9 Q.e
  have hbl := S.bl
  have hmb := G.mb
  obtain ⟨ct, hct⟩ : ∃ ct, ct = (U.blocks.getD s.bl dBl).ct := ⟨_, rfl⟩
  rw [← hct] at c5
  by_cases hn : ct < 0
  · have HN := Lib.hid (show s.trap U n = { s with kind := 2, val := n } by simp only [St.trap, ← hct, hn, if_true])
    have HQ := Lib.hid Q
    clear hct Q eb
    go_enter Tryd.func80, Tryd.ntmps80
    go_wp2
    go_quiet (fail)
    go_wp2_with (go_at_call 85; refine (rendE_any ((HQ.out.drewN nq).x) 2 n (.inr rfl)).mono ?_; rintro e w' ⟨rfl, E'⟩)
    first | go_end0 | refine bodyPost_ret (results_none rfl _ _ _) rfl ?_
    refine ⟨rfl, ?_⟩
    rw [HN.out]
    exact E'
  · have hct1 : inR ct U.blocks.length := by
      rcases (G.bls _ (List.getElem_mem S.bl)).ct with h | h
      · exfalso; apply hn; rw [hct, List.getD_eq_getElem?_getD, List.getElem?_eq_getElem S.bl]; simp only [Option.getD_some]; omega
      · rw [hct, List.getD_eq_getElem?_getD, List.getElem?_eq_getElem S.bl]; exact h
    obtain ⟨hc0, hc1⟩ := hct1
    have HN := Lib.hid (show s.trap U n = (s.put U.code (n, 0)).enter ct.toNat by simp only [St.trap, ← hct, hn, if_false])
    obtain ⟨hd0, hd1⟩ := G.cd
    have hr := S.regs
    have h3 := S3 Q.e
    have h6 := S6 Q.e
    have hr1 : U.code < s.regs.length := by omega
    have r0 := reg0 Q.e hd0 hr1
    have r1 := reg1 Q.e hd0 hr1
    have g0 := Q.e.regs.frozen (U.code.toNat * 2)
    have g1 := Q.e.regs.frozen (U.code.toNat * 2 + 1)
    obtain ⟨a0, ha0⟩ : ∃ a0, a0 = (s.reg U.code).1 := ⟨_, rfl⟩
    obtain ⟨a1, ha1⟩ : ∃ a1, a1 = (s.reg U.code).2 := ⟨_, rfl⟩
    rw [← ha0] at r0; rw [← ha1] at r1
    have hrl : s.regs.length ≤ 4096 := by have := G.r2; omega
    have HQ := Lib.hid Q
    have HW := Lib.hid S.ways
    have HL : Hid (ct < (s.put U.code (n, 0)).seen.length) := by show ct < s.seen.length; rw [S.seen]; exact hc1
    have HL2 : Hid ((s.put U.code (n, 0)).seen.length ≤ 2000) := by show s.seen.length ≤ 2000; rw [S.seen]; exact G.mb
    clear hct Q eb ha0 ha1 hr
    go_enter Tryd.func80, Tryd.ntmps80
    go_wp2
    go_quiet (fail)
    go_wp2_with fail
    go_region
    go_wp2_with (go_at_call 53; refine (renter_any ((HQ.out.drewN (nq + 1)).newReg okR U.code.toNat (n, 0)).x ct hc0 HL.out HW.out HL2.out).mono ?_; rintro e w' ⟨rfl, E'⟩)
    first | go_end0 | refine bodyPost_ret (results_none rfl _ _ _) rfl ?_
    rw [HN.out]
    exact ⟨rfl, E'⟩
end Go.Proofs.YtfkjkdoloamakaaDoor
