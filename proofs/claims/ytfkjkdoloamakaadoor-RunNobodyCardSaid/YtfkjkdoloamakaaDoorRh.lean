/- What leave of package run does: the state is St.leave. -/
import Derived.Test.YtfkjkdoloamakaaDoorRg
namespace Go.Proofs.YtfkjkdoloamakaaDoor
open Go.RowKit
set_option linter.unusedVariables false
variable {F : Nat → Prop} {w0 w : World} {M0 : Nat → Prop} {p : Nat} {U : UnS} {s : St}

theorem StGood.put {U : UnS} {s : St} (S : StGood U s) (r : Int) (v : Int × Int) (hv : fm v = true) : StGood U (s.put r v) :=
  { S with
    regs := by simpa [St.put] using S.regs
    form := fun x hx => (List.mem_or_eq_of_mem_set hx).elim (S.form x) (fun h => h ▸ hv) }
theorem bel_box {w w1 : World} {o : Obj} (h : Below (w.alloc o).heap.size (w.alloc o) w1) : Below w.heap.size w w1 := ((Below.refl _ w).alloc (Nat.le_refl _) o).trans (h.mono (by simp))
theorem EngQ.cntTo {L : EngL} (Q : EngQ layP F w0 M0 w p U s L) (x : Int) (hx : s.seen.modify s.bl (fun y => (y.1, wrap64 (x + 1), y.2.2)) = s.seen.modify s.bl (fun y => (y.1, wrap64 (y.2.1 + 1), y.2.2))) : EngQ layP F w0 M0 (w.setCell ⟨L.gs, s.bl * 3 + 1, none⟩ (.int .i64 (wrap64 (x + 1)))) p U { s with seen := s.seen.modify s.bl (fun y => (y.1, wrap64 (y.2.1 + 1), y.2.2)) } L :=
  Q.newSeen okP _ _ _ (by simp) (by rw [cntC_set1, hx])
theorem EngQ.cntElse {L : EngL} (Q : EngQ layP F w0 M0 w p U s L) (x : Int) (hx : s.seen.modify s.bl (fun y => (y.1, y.2.1, wrap64 (x + 1))) = s.seen.modify s.bl (fun y => (y.1, y.2.1, wrap64 (y.2.2 + 1)))) : EngQ layP F w0 M0 (w.setCell ⟨L.gs, s.bl * 3 + 2, none⟩ (.int .i64 (wrap64 (x + 1)))) p U { s with seen := s.seen.modify s.bl (fun y => (y.1, y.2.1, wrap64 (y.2.2 + 1))) } L :=
  Q.newSeen okP _ _ _ (by simp) (by rw [cntC_set2, hx])

theorem cell_box {w w1 : World} {cs : Array Value} {t : TypeId} (h : Below (w.alloc (.cells cs t)).heap.size (w.alloc (.cells cs t)) w1) (i : Nat) (v : Value) (hv : cs[i]? = some v) : w1.cell? ⟨w.heap.size, i, none⟩ = some v := by
  rw [h.cell (by simp)]
  exact ((Blk.new w t cs).cell i).trans hv
theorem bad_one {L : EngL} (E : Eng layP F w p U s L) {g : Nat} {a : Int} (hc : w.cell? ⟨g, 0, none⟩ = some (.int .i64 a)) (ha0 : 0 ≤ a) (ha1 : a < s.regs.length) (b : Int) (hb : (s.reg a).2 = b) :
    Calls Tryd.prog 98 #[.pointer (some ⟨p, 0, none⟩), .slice (some ⟨g, 0, none⟩) 1 1] w fun e w' => e = .returned (.int .i64 b) ∧ w = w' := by
  have h := bad_any E (some ⟨g, 0, none⟩) 1 [a] (fun _ => ⟨g, rfl, fun j hj => by
    have hj0 : j = 0 := by simpa using hj
    subst hj0; exact hc⟩) (fun r hr => by simp at hr; subst hr; exact ⟨ha0, ha1⟩) (by simp)
  have e : badOf s.regs [a] = b := by
    show (if (s.regs.getD a.toNat (0, 0)).2 ≠ 0 then (s.regs.getD a.toNat (0, 0)).2 else 0) = b
    have hb' : (s.regs.getD a.toNat (0, 0)).2 = b := hb
    rw [hb']
    by_cases h0 : b = 0
    · simp [h0]
    · simp [h0]
  rw [e] at h
  exact h

set_option maxRecDepth 100000 in
set_option maxHeartbeats 2000000 in
theorem leave_jump (G : UnGood U) (S : StGood U s) (E : EngX layP F w0 M0 w p U s) (a t l : Int) (ha0 : 0 ≤ a) (ha1 : a < s.regs.length) (ht0 : 0 ≤ t) (ht1 : t < s.seen.length) :
    Calls Tryd.prog 77 #[.pointer (some ⟨p, 0, none⟩), .agg #[.int .i64 1, .int .i64 a, .int .i64 t, .int .i64 l]] w fun e w' => e = .returned (.tuple #[]) ∧ EngX layP F w0 M0 w' p U (({ s with seen := s.seen.modify s.bl (fun y => (y.1, wrap64 (y.2.1 + 1), y.2.2)) } : St).enter t.toNat) := by
  obtain ⟨L, Q⟩ := E
  have hbs : s.bl < s.seen.length := by rw [S.seen]; exact S.bl
  have hmb : s.seen.length ≤ 2000 := by rw [S.seen]; exact G.mb
  have hrl : s.regs.length ≤ 4096 := by have := G.r2; have := S.regs; omega
  have HQ := Lib.hid Q
  have HS := Lib.hid S
  have HG := Lib.hid G
  
  clear Q S G
  go_enter Tryd.func77, Tryd.ntmps77
  go_wp2_with (first
    | (go_at_call 99; refine (endReads_jump _ _ _ _).mono ?_; rintro e w1 ⟨rfl, hb⟩; have Q1 := HQ.out.below (bel_box hb); have c6 := P6 Q1.e; have c10 := P10 Q1.e; have c13 := P13 Q1.e; have c14 := P14 Q1.e; have c16 := P16 Q1.e; have f13 := Q1.e.blk.frozen 13; have f14 := Q1.e.blk.frozen 14; have fs1 := Q1.e.seen.frozen (s.bl * 3 + 1); have fs2 := Q1.e.seen.frozen (s.bl * 3 + 2); have r0 := reg0 Q1.e ha0 ha1; have r1 := reg1 Q1.e ha0 ha1; have hns : p ≠ L.gs := (Q1.e.blk.ne_ Q1.e.seen (by decide)); have hns' := hns.symm; obtain ⟨x1, hx1, hxe1⟩ := seen1 Q1.e hbs; obtain ⟨x2, hx2, hxe2⟩ := seen2 Q1.e hbs; have bc := ((bel_box hb).size); have xc0 := cell_box hb 0 _ rfl; have xc1 := cell_box hb 1 _ rfl; have xc2 := cell_box hb 2 _ rfl; have xc3 := cell_box hb 3 _ rfl; have HQ1 := Lib.hid Q1; have HX1 := Lib.hid hxe1; have HX2 := Lib.hid hxe2; clear Q1 hxe1 hxe2 hb)
    | (go_at_call 98; refine (bad_any HQ1.out.e _ _ [] (fun h => absurd h (by simp)) (fun r hr => absurd hr (by simp)) (by simp)).mono ?_; rintro e w2 ⟨rfl, rfl⟩))
  go_quiet (fail)
  go_wp2_with fail
  go_quiet (fail)
  go_wp2_with (go_at_call 97; refine (enter_any ((HQ1.out.drewN _).cntTo _ HX1.out).x t ht0 (by simpa using ht1) HS.out.ways).mono ?_; rintro e w3 ⟨rfl, E3⟩)
  first | go_end0 | refine bodyPost_ret (results_none rfl _ _ _) rfl ?_
  exact ⟨rfl, E3⟩

set_option maxRecDepth 100000 in
set_option maxHeartbeats 2000000 in
theorem leave_bad (G : UnGood U) (S : StGood U s) (E : EngX layP F w0 M0 w p U s) (a t l : Int) (ha0 : 0 ≤ a) (ha1 : a < s.regs.length) (k b2 : Int) (hk1 : (k == 1) = false) (hbd : (s.reg a).2 = b2) (hb0 : ¬ b2 = 0) :
    Calls Tryd.prog 77 #[.pointer (some ⟨p, 0, none⟩), .agg #[.int .i64 k, .int .i64 a, .int .i64 t, .int .i64 l]] w fun e w' => e = .returned (.tuple #[]) ∧ EngX layP F w0 M0 w' p U (s.trap U b2) := by
  obtain ⟨L, Q⟩ := E
  have hbs : s.bl < s.seen.length := by rw [S.seen]; exact S.bl
  have hmb : s.seen.length ≤ 2000 := by rw [S.seen]; exact G.mb
  have hrl : s.regs.length ≤ 4096 := by have := G.r2; have := S.regs; omega
  have HQ := Lib.hid Q
  have HBD := Lib.hid hbd
  clear hbd
  have HS := Lib.hid S
  have HG := Lib.hid G
  
  clear Q S G
  go_enter Tryd.func77, Tryd.ntmps77
  go_wp2_with (first
    | (go_at_call 99; refine (endReads_other _ _ _ _ hk1 _).mono ?_; rintro e w1 ⟨ge, rfl, hge, hblk, hb⟩; have hlc := hblk.cell 0; have Q1 := HQ.out.below (bel_box hb); have c6 := P6 Q1.e; have c10 := P10 Q1.e; have c13 := P13 Q1.e; have c14 := P14 Q1.e; have c16 := P16 Q1.e; have f13 := Q1.e.blk.frozen 13; have f14 := Q1.e.blk.frozen 14; have fs1 := Q1.e.seen.frozen (s.bl * 3 + 1); have fs2 := Q1.e.seen.frozen (s.bl * 3 + 2); have r0 := reg0 Q1.e ha0 ha1; have r1 := reg1 Q1.e ha0 ha1; have hns : p ≠ L.gs := (Q1.e.blk.ne_ Q1.e.seen (by decide)); have hns' := hns.symm; obtain ⟨x1, hx1, hxe1⟩ := seen1 Q1.e hbs; obtain ⟨x2, hx2, hxe2⟩ := seen2 Q1.e hbs; have bc := ((bel_box hb).size); have xc0 := cell_box hb 0 _ rfl; have xc1 := cell_box hb 1 _ rfl; have xc2 := cell_box hb 2 _ rfl; have xc3 := cell_box hb 3 _ rfl; have HQ1 := Lib.hid Q1; have HX1 := Lib.hid hxe1; have HX2 := Lib.hid hxe2; clear Q1 hxe1 hxe2 hb)
    | (go_at_call 98; refine (bad_one HQ1.out.e hlc ha0 ha1 b2 HBD.out).mono ?_; rintro e w2 ⟨rfl, rfl⟩))
  go_wp2_with (go_at_call 79; refine (trap_any HG.out HS.out HQ1.out.x _).mono ?_; rintro e w3 ⟨rfl, E3⟩)
  first | go_end0 | refine bodyPost_ret (results_none rfl _ _ _) rfl ?_
  exact ⟨rfl, E3⟩

set_option maxRecDepth 100000 in
set_option maxHeartbeats 2000000 in
theorem leave_throw (G : UnGood U) (S : StGood U s) (E : EngX layP F w0 M0 w p U s) (a t l : Int) (ha0 : 0 ≤ a) (ha1 : a < s.regs.length) (hbd : (s.reg a).2 = 0) :
    Calls Tryd.prog 77 #[.pointer (some ⟨p, 0, none⟩), .agg #[.int .i64 4, .int .i64 a, .int .i64 t, .int .i64 l]] w fun e w' => e = .returned (.tuple #[]) ∧ EngX layP F w0 M0 w' p U (s.trap U (s.reg a).1) := by
  obtain ⟨L, Q⟩ := E
  have hbs : s.bl < s.seen.length := by rw [S.seen]; exact S.bl
  have hmb : s.seen.length ≤ 2000 := by rw [S.seen]; exact G.mb
  have hrl : s.regs.length ≤ 4096 := by have := G.r2; have := S.regs; omega
  have HQ := Lib.hid Q
  have HBD := Lib.hid hbd
  clear hbd
  have HS := Lib.hid S
  have HG := Lib.hid G
  have hk1 : ((4 : Int) == 1) = false := by decide
  clear Q S G
  go_enter Tryd.func77, Tryd.ntmps77
  go_wp2_with (first
    | (go_at_call 99; refine (endReads_other _ _ _ _ hk1 _).mono ?_; rintro e w1 ⟨ge, rfl, hge, hblk, hb⟩; have hlc := hblk.cell 0; have Q1 := HQ.out.below (bel_box hb); have c6 := P6 Q1.e; have c10 := P10 Q1.e; have c13 := P13 Q1.e; have c14 := P14 Q1.e; have c16 := P16 Q1.e; have f13 := Q1.e.blk.frozen 13; have f14 := Q1.e.blk.frozen 14; have fs1 := Q1.e.seen.frozen (s.bl * 3 + 1); have fs2 := Q1.e.seen.frozen (s.bl * 3 + 2); have r0 := reg0 Q1.e ha0 ha1; have r1 := reg1 Q1.e ha0 ha1; have hns : p ≠ L.gs := (Q1.e.blk.ne_ Q1.e.seen (by decide)); have hns' := hns.symm; obtain ⟨x1, hx1, hxe1⟩ := seen1 Q1.e hbs; obtain ⟨x2, hx2, hxe2⟩ := seen2 Q1.e hbs; have bc := ((bel_box hb).size); have xc0 := cell_box hb 0 _ rfl; have xc1 := cell_box hb 1 _ rfl; have xc2 := cell_box hb 2 _ rfl; have xc3 := cell_box hb 3 _ rfl; have HQ1 := Lib.hid Q1; have HX1 := Lib.hid hxe1; have HX2 := Lib.hid hxe2; clear Q1 hxe1 hxe2 hb)
    | (go_at_call 98; refine (bad_one HQ1.out.e hlc ha0 ha1 0 HBD.out).mono ?_; rintro e w2 ⟨rfl, rfl⟩))
  go_quiet (fail)
  go_wp2_with fail
  go_quiet (fail)
  go_wp2_with (go_at_call 79; refine (trap_any HG.out HS.out (HQ1.out.drewN _).x _).mono ?_; rintro e w3 ⟨rfl, E3⟩)
  first | go_end0 | refine bodyPost_ret (results_none rfl _ _ _) rfl ?_
  exact ⟨rfl, E3⟩

set_option maxRecDepth 100000 in
set_option maxHeartbeats 2000000 in
theorem leave_return (G : UnGood U) (S : StGood U s) (E : EngX layP F w0 M0 w p U s) (a t l : Int) (ha0 : 0 ≤ a) (ha1 : a < s.regs.length) (hbd : (s.reg a).2 = 0) :
    Calls Tryd.prog 77 #[.pointer (some ⟨p, 0, none⟩), .agg #[.int .i64 3, .int .i64 a, .int .i64 t, .int .i64 l]] w fun e w' => e = .returned (.tuple #[]) ∧ EngX layP F w0 M0 w' p U ({ s with kind := 1, val := (s.reg a).1 }) := by
  obtain ⟨L, Q⟩ := E
  have hbs : s.bl < s.seen.length := by rw [S.seen]; exact S.bl
  have hmb : s.seen.length ≤ 2000 := by rw [S.seen]; exact G.mb
  have hrl : s.regs.length ≤ 4096 := by have := G.r2; have := S.regs; omega
  have HQ := Lib.hid Q
  have HBD := Lib.hid hbd
  clear hbd
  have HS := Lib.hid S
  have HG := Lib.hid G
  have hk1 : ((3 : Int) == 1) = false := by decide
  clear Q S G
  go_enter Tryd.func77, Tryd.ntmps77
  go_wp2_with (first
    | (go_at_call 99; refine (endReads_other _ _ _ _ hk1 _).mono ?_; rintro e w1 ⟨ge, rfl, hge, hblk, hb⟩; have hlc := hblk.cell 0; have Q1 := HQ.out.below (bel_box hb); have c6 := P6 Q1.e; have c10 := P10 Q1.e; have c13 := P13 Q1.e; have c14 := P14 Q1.e; have c16 := P16 Q1.e; have f13 := Q1.e.blk.frozen 13; have f14 := Q1.e.blk.frozen 14; have fs1 := Q1.e.seen.frozen (s.bl * 3 + 1); have fs2 := Q1.e.seen.frozen (s.bl * 3 + 2); have r0 := reg0 Q1.e ha0 ha1; have r1 := reg1 Q1.e ha0 ha1; have hns : p ≠ L.gs := (Q1.e.blk.ne_ Q1.e.seen (by decide)); have hns' := hns.symm; obtain ⟨x1, hx1, hxe1⟩ := seen1 Q1.e hbs; obtain ⟨x2, hx2, hxe2⟩ := seen2 Q1.e hbs; have bc := ((bel_box hb).size); have xc0 := cell_box hb 0 _ rfl; have xc1 := cell_box hb 1 _ rfl; have xc2 := cell_box hb 2 _ rfl; have xc3 := cell_box hb 3 _ rfl; have HQ1 := Lib.hid Q1; have HX1 := Lib.hid hxe1; have HX2 := Lib.hid hxe2; clear Q1 hxe1 hxe2 hb)
    | (go_at_call 98; refine (bad_one HQ1.out.e hlc ha0 ha1 0 HBD.out).mono ?_; rintro e w2 ⟨rfl, rfl⟩))
  go_quiet (fail)
  go_wp2_with fail
  go_quiet (fail)
  go_wp2
  first | go_end0 | refine bodyPost_ret (results_none rfl _ _ _) rfl ?_
  exact ⟨rfl, ((HQ1.out.drewN _).endP 1 (s.reg a).1).x⟩

set_option maxRecDepth 100000 in
set_option maxHeartbeats 2000000 in
theorem leave_to (G : UnGood U) (S : StGood U s) (E : EngX layP F w0 M0 w p U s) (a t l : Int) (ha0 : 0 ≤ a) (ha1 : a < s.regs.length) (hbd : (s.reg a).2 = 0) (hz : ¬ (s.reg a).1 = 0) (ht0 : 0 ≤ t) (ht1 : t < s.seen.length) :
    Calls Tryd.prog 77 #[.pointer (some ⟨p, 0, none⟩), .agg #[.int .i64 2, .int .i64 a, .int .i64 t, .int .i64 l]] w fun e w' => e = .returned (.tuple #[]) ∧ EngX layP F w0 M0 w' p U (({ s with seen := s.seen.modify s.bl (fun y => (y.1, wrap64 (y.2.1 + 1), y.2.2)) } : St).enter t.toNat) := by
  obtain ⟨L, Q⟩ := E
  have hbs : s.bl < s.seen.length := by rw [S.seen]; exact S.bl
  have hmb : s.seen.length ≤ 2000 := by rw [S.seen]; exact G.mb
  have hrl : s.regs.length ≤ 4096 := by have := G.r2; have := S.regs; omega
  have HQ := Lib.hid Q
  have HBD := Lib.hid hbd
  clear hbd
  have HS := Lib.hid S
  have HG := Lib.hid G
  have hk1 : ((2 : Int) == 1) = false := by decide
  clear Q S G
  go_enter Tryd.func77, Tryd.ntmps77
  go_wp2_with (first
    | (go_at_call 99; refine (endReads_other _ _ _ _ hk1 _).mono ?_; rintro e w1 ⟨ge, rfl, hge, hblk, hb⟩; have hlc := hblk.cell 0; have Q1 := HQ.out.below (bel_box hb); have c6 := P6 Q1.e; have c10 := P10 Q1.e; have c13 := P13 Q1.e; have c14 := P14 Q1.e; have c16 := P16 Q1.e; have f13 := Q1.e.blk.frozen 13; have f14 := Q1.e.blk.frozen 14; have fs1 := Q1.e.seen.frozen (s.bl * 3 + 1); have fs2 := Q1.e.seen.frozen (s.bl * 3 + 2); have r0 := reg0 Q1.e ha0 ha1; have r1 := reg1 Q1.e ha0 ha1; have hns : p ≠ L.gs := (Q1.e.blk.ne_ Q1.e.seen (by decide)); have hns' := hns.symm; obtain ⟨x1, hx1, hxe1⟩ := seen1 Q1.e hbs; obtain ⟨x2, hx2, hxe2⟩ := seen2 Q1.e hbs; have bc := ((bel_box hb).size); have xc0 := cell_box hb 0 _ rfl; have xc1 := cell_box hb 1 _ rfl; have xc2 := cell_box hb 2 _ rfl; have xc3 := cell_box hb 3 _ rfl; have HQ1 := Lib.hid Q1; have HX1 := Lib.hid hxe1; have HX2 := Lib.hid hxe2; clear Q1 hxe1 hxe2 hb)
    | (go_at_call 98; refine (bad_one HQ1.out.e hlc ha0 ha1 0 HBD.out).mono ?_; rintro e w2 ⟨rfl, rfl⟩))
  go_quiet (fail)
  go_wp2_with fail
  go_quiet (fail)
  go_wp2_with (go_at_call 97; refine (enter_any ((HQ1.out.drewN _).cntTo _ HX1.out).x t ht0 (by simpa using ht1) HS.out.ways).mono ?_; rintro e w3 ⟨rfl, E3⟩)
  first | go_end0 | refine bodyPost_ret (results_none rfl _ _ _) rfl ?_
  exact ⟨rfl, E3⟩

set_option maxRecDepth 100000 in
set_option maxHeartbeats 2000000 in
theorem leave_else (G : UnGood U) (S : StGood U s) (E : EngX layP F w0 M0 w p U s) (a t l : Int) (ha0 : 0 ≤ a) (ha1 : a < s.regs.length) (hbd : (s.reg a).2 = 0) (hz : (s.reg a).1 = 0) (ht0 : 0 ≤ l) (ht1 : l < s.seen.length) :
    Calls Tryd.prog 77 #[.pointer (some ⟨p, 0, none⟩), .agg #[.int .i64 2, .int .i64 a, .int .i64 t, .int .i64 l]] w fun e w' => e = .returned (.tuple #[]) ∧ EngX layP F w0 M0 w' p U (({ s with seen := s.seen.modify s.bl (fun y => (y.1, y.2.1, wrap64 (y.2.2 + 1))) } : St).enter l.toNat) := by
  obtain ⟨L, Q⟩ := E
  have hbs : s.bl < s.seen.length := by rw [S.seen]; exact S.bl
  have hmb : s.seen.length ≤ 2000 := by rw [S.seen]; exact G.mb
  have hrl : s.regs.length ≤ 4096 := by have := G.r2; have := S.regs; omega
  have HQ := Lib.hid Q
  have HBD := Lib.hid hbd
  clear hbd
  have HS := Lib.hid S
  have HG := Lib.hid G
  have hk1 : ((2 : Int) == 1) = false := by decide
  clear Q S G
  go_enter Tryd.func77, Tryd.ntmps77
  go_wp2_with (first
    | (go_at_call 99; refine (endReads_other _ _ _ _ hk1 _).mono ?_; rintro e w1 ⟨ge, rfl, hge, hblk, hb⟩; have hlc := hblk.cell 0; have Q1 := HQ.out.below (bel_box hb); have c6 := P6 Q1.e; have c10 := P10 Q1.e; have c13 := P13 Q1.e; have c14 := P14 Q1.e; have c16 := P16 Q1.e; have f13 := Q1.e.blk.frozen 13; have f14 := Q1.e.blk.frozen 14; have fs1 := Q1.e.seen.frozen (s.bl * 3 + 1); have fs2 := Q1.e.seen.frozen (s.bl * 3 + 2); have r0 := reg0 Q1.e ha0 ha1; have r1 := reg1 Q1.e ha0 ha1; have hns : p ≠ L.gs := (Q1.e.blk.ne_ Q1.e.seen (by decide)); have hns' := hns.symm; obtain ⟨x1, hx1, hxe1⟩ := seen1 Q1.e hbs; obtain ⟨x2, hx2, hxe2⟩ := seen2 Q1.e hbs; have bc := ((bel_box hb).size); have xc0 := cell_box hb 0 _ rfl; have xc1 := cell_box hb 1 _ rfl; have xc2 := cell_box hb 2 _ rfl; have xc3 := cell_box hb 3 _ rfl; have HQ1 := Lib.hid Q1; have HX1 := Lib.hid hxe1; have HX2 := Lib.hid hxe2; clear Q1 hxe1 hxe2 hb)
    | (go_at_call 98; refine (bad_one HQ1.out.e hlc ha0 ha1 0 HBD.out).mono ?_; rintro e w2 ⟨rfl, rfl⟩))
  go_quiet (fail)
  go_wp2_with fail
  go_quiet (fail)
  go_wp2_with (go_at_call 97; refine (enter_any ((HQ1.out.drewN _).cntElse _ HX2.out).x l ht0 (by simpa using ht1) HS.out.ways).mono ?_; rintro e w3 ⟨rfl, E3⟩)
  first | go_end0 | refine bodyPost_ret (results_none rfl _ _ _) rfl ?_
  exact ⟨rfl, E3⟩
end Go.Proofs.YtfkjkdoloamakaaDoor
