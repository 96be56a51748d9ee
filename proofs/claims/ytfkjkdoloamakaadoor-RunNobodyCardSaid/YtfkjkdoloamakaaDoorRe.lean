/- What enter of package run does: the state is St.enter. -/
import Derived.Test.YtfkjkdoloamakaaDoorRd
import Derived.WalkKit
import Derived.WalkSpells
import Derived.WalkLawsBesides
import Derived.Handy
import Derived.BigQuiet
import Derived.Deep.QuietTactic
import Derived.Deep.RegionWith
import Derived.Deep.RegionHeld3
import Derived.StillTailTactics
import Derived.OwnWalk
import Derived.Lib.Hide
import Derived.Maps.AppendAt
namespace Go.Proofs.YtfkjkdoloamakaaDoor
open Go.RowKit
variable {F : Nat → Prop} {w0 w : World} {M0 : Nat → Prop} {p : Nat} {U : UnS} {s : St}

theorem int_info : (Tryd.prog.info? 3).map (fun i => (i.zero, i.size, i.bytes)) = some (some (.int .i64 0), 1, 8) := by kernel_rfl
theorem i64_info : (Tryd.prog.info? 2).map (fun i => (i.zero, i.size, i.bytes)) = some (some (.int .i64 0), 1, 8) := by kernel_rfl

theorem cell_new (W : World) (n : Nat) (hn : n = W.heap.size) (x : Value) (t : TypeId) : ∀ j u, [x][j]? = some u → (W.alloc (.cells #[x] t)).cell? ((⟨n, 0, none⟩ : Addr).add j) = some u := by
  intro j u hu
  cases j with
  | zero =>
    simp at hu; subst hu; subst hn
    exact (Blk.new W t #[x]).cell 0
  | succ j => simp at hu
theorem one_mem {x : Value} (h : x.oneCell' = true) : ∀ u ∈ [x], u.oneCell' = true := by
  intro u hu; simp at hu; subst hu; exact h
theorem own_shape {w : World} {base : Nat} {e : TypeId} {size n : Nat} {v : Value} {xs : List Value} (h : w.ownsRow base e size v n xs) : ∃ A c, v = .slice A n c := by
  rcases h.2 with ⟨rfl, rfl⟩ | ⟨g, cap, cur, rfl, _⟩
  · exact ⟨_, _, rfl⟩
  · exact ⟨_, _, rfl⟩
theorem seen0 {y : Lay} {L : EngL} (h : Eng y F w p U s L) {b : Int} (h0 : 0 ≤ b) (h1 : b < s.seen.length) : ∃ x, w.cell? ⟨L.gs, b.toNat * 3, none⟩ = some (.int .i64 x) ∧ s.seen.modify b.toNat (fun y => (wrap64 (x + 1), y.2)) = s.seen.modify b.toNat (fun y => (wrap64 (y.1 + 1), y.2)) := by
  refine ⟨(s.seen[b.toNat]'(by omega)).1, by rw [h.seen.cell, List.getElem?_toArray, cntC_0 s.seen b.toNat (by omega)], ?_⟩
  apply List.ext_getElem (by simp)
  intro i h1 h2
  simp only [List.getElem_modify]
  split
  · rename_i e; subst e; rfl
  · rfl
theorem seen1 {y : Lay} {L : EngL} (h : Eng y F w p U s L) {b : Nat} (h1 : b < s.seen.length) : ∃ x, w.cell? ⟨L.gs, b * 3 + 1, none⟩ = some (.int .i64 x) ∧ s.seen.modify b (fun y => (y.1, wrap64 (x + 1), y.2.2)) = s.seen.modify b (fun y => (y.1, wrap64 (y.2.1 + 1), y.2.2)) := by
  refine ⟨(s.seen[b]).2.1, by rw [h.seen.cell, List.getElem?_toArray, cntC_1 s.seen b h1], ?_⟩
  apply List.ext_getElem (by simp)
  intro i h1 h2
  simp only [List.getElem_modify]
  split
  · rename_i e; subst e; rfl
  · rfl
theorem seen2 {y : Lay} {L : EngL} (h : Eng y F w p U s L) {b : Nat} (h1 : b < s.seen.length) : ∃ x, w.cell? ⟨L.gs, b * 3 + 2, none⟩ = some (.int .i64 x) ∧ s.seen.modify b (fun y => (y.1, y.2.1, wrap64 (x + 1))) = s.seen.modify b (fun y => (y.1, y.2.1, wrap64 (y.2.2 + 1))) := by
  refine ⟨(s.seen[b]).2.2, by rw [h.seen.cell, List.getElem?_toArray, cntC_2 s.seen b h1], ?_⟩
  apply List.ext_getElem (by simp)
  intro i h1 h2
  simp only [List.getElem_modify]
  split
  · rename_i e; subst e; rfl
  · rfl

set_option maxRecDepth 100000 in
set_option maxHeartbeats 1000000 in
theorem enter_any (E : EngX layP F w0 M0 w p U s) (b : Int) (h0 : 0 ≤ b) (h1 : b < s.seen.length) (hw : s.ways.length ≤ 20000) :
    Calls Tryd.prog 97 #[.pointer (some ⟨p, 0, none⟩), .int .i64 b] w fun e w' => e = .returned (.tuple #[]) ∧ EngX layP F w0 M0 w' p U (s.enter b.toNat) := by
  obtain ⟨L, Q⟩ := E
  obtain ⟨A, c, hvw⟩ := own_shape Q.e.ways
  have h10 := P10 Q.e
  have h11 := P11 Q.e
  have h15 := P15 Q.e
  have h16 := P16 Q.e
  rw [hvw] at h15
  have f10 := Q.e.blk.frozen 10
  have f11 := Q.e.blk.frozen 11
  have f15 := Q.e.blk.frozen 15
  have fs := Q.e.seen.frozen (b.toNat * 3)
  obtain ⟨x, hx, hxe⟩ := seen0 Q.e h0 h1
  have hne : p ≠ L.gs := Q.e.blk.ne_ Q.e.seen (by decide)
  have hne' : L.gs ≠ p := hne.symm
  have hcast : ((b.toNat : Nat) : Int) = b := Int.toNat_of_nonneg h0
  -- the engine behind the stores
  have Q1 : EngQ layP F w0 M0 (((w.setCell ⟨p, 10, none⟩ (.int .i64 b)).setCell ⟨p, 11, none⟩ (.int .i64 0)).setCell ⟨L.gs, b.toNat * 3, none⟩ (.int .i64 (wrap64 (x + 1)))) p U { s with bl := b.toNat, pc := 0, seen := s.seen.modify b.toNat (fun y => (wrap64 (y.1 + 1), y.2)) } L := by
    have q1 : EngQ layP F w0 M0 ((w.setCell ⟨p, 10, none⟩ (.int .i64 b)).setCell ⟨p, 11, none⟩ (.int .i64 0)) p U { s with bl := b.toNat, pc := 0 } L :=
      Q.newP okP (Fr.two _ _ _ _ _ _) (by
        have hb := (Q.e.blk.set_ 10 (.int .i64 b)).set_ 11 (.int .i64 0)
        rw [← hcast] at hb ⊢
        exact hb) rfl rfl rfl rfl rfl rfl
    exact q1.newSeen okP _ _ _ (by simp) (by rw [cntC_set0, hxe])
  have hsz : L.gs < w.heap.size := Q.e.seen.lt
  by_cases hn : s.ways.length < 20000
  · obtain ⟨i0, hi, hz0, hz1, hz2⟩ := info_parts int_info
    have HN := Lib.hid (show s.enter b.toNat = { s with bl := b.toNat, pc := 0, seen := s.seen.modify b.toNat (fun y => (wrap64 (y.1 + 1), y.2)), ways := s.ways ++ [(b.toNat : Int)] } by simp only [St.enter, hn, if_true])
    have HC := Lib.hid hcast
    have HV := Lib.hid hvw
    have HQ := Lib.hid Q1
    clear Q1 hxe hcast hvw Q
    go_enter Tryd.func97, Tryd.ntmps97
    go_wp2_with (at_builtin; go_must (refine wpList_append_own_at _ rfl (.tmp 30) (.tmp 32) 22 rfl 0 3 i0 (.int .i64 0) 1 8 Tryd.underlying22 hi hz0 hz1 hz2 rfl (by decide) (.slice A s.ways.length c) s.ways.length (numV s.ways) rfl ?co ⟨w.heap.size, 0, none⟩ 1 1 [.int .i64 b] rfl rfl ?c1 ?c2 ?c3 ?c4 ?c5 ?_; (case co => (rw [← HV.out]; exact ((HQ.out).alloc _).e.ways)); (case c1 => exact cell_new _ _ (by simp) _ _); (case c2 => exact one_mem rfl); (case c3 => (unfold maxLen; omega)); (case c4 => omega); (case c5 => exact Nat.zero_le _); intro v' w1 hown1 hg1 _hx hat1; obtain ⟨A1, c1, rfl⟩ := own_shape hown1; rw [← HV.out] at hg1 hat1; have hp1 := (HQ.out.alloc _).e.blk_ways okP hg1; have c15 : w1.cell? ⟨p, 15, none⟩ = some L.vw := (hp1.cell 15).trans rfl; have f151 := hp1.frozen 15; have HO1 := Lib.hid hown1; have HG1 := Lib.hid hg1; have HA1 := Lib.hid hat1; clear hown1 hg1 hat1 hp1 _hx))
    go_end0
    refine ⟨rfl, ?_⟩
    rw [HN.out]
    have ho : w1.ownsRow 0 3 1 (.slice A1 (s.ways.length + 1) c1) (s.ways ++ [(b.toNat : Int)]).length (numV (s.ways ++ [(b.toNat : Int)])) := by
      have := HO1.out
      rw [HC.out]
      simpa [numV] using this
    refine ((HQ.out.alloc _).newWays okP HG1.out ho ?_).x
    rcases HA1.out with h | h
    · exact .inl h
    · exact .inr ⟨_, h, Nat.le_refl _⟩
  · have HN := Lib.hid (show s.enter b.toNat = { s with bl := b.toNat, pc := 0, seen := s.seen.modify b.toNat (fun y => (wrap64 (y.1 + 1), y.2)) } by simp only [St.enter, hn, if_false])
    have HQ := Lib.hid Q1
    clear Q1 hxe hcast hvw Q
    go_enter Tryd.func97, Tryd.ntmps97
    go_wp2
    go_end0
    rw [HN.out]
    exact ⟨rfl, HQ.out.x⟩
end Go.Proofs.YtfkjkdoloamakaaDoor
