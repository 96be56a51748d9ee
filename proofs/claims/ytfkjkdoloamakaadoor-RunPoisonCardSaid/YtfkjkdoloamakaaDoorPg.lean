/- The checker of package code: what it says of units that are wrong in their limits, sizes or registers. -/
import Derived.Test.YtfkjkdoloamakaaDoorPf
namespace Go.Proofs.YtfkjkdoloamakaaDoor
open Go.RowKit
set_option linter.unusedVariables false
set_option linter.unusedSimpArgs false
variable {w : World} {c : Nat} {U : UnS} {Av Ab : Option Addr} {cv cb : Nat} {F : Nat → Prop}

theorem size_bad (n : Int) (h : n < 1 ∨ 65536 < n) (w : World) : Calls Tryd.prog 93 #[.int .i64 n] w fun x w' => x = .returned (.bool true) ∧ w = w' := by
  rcases h with h | h
  · have d1 : decide (n < 1) = true := by simp; omega
    go_enter Tryd.func93, Tryd.ntmps93
    go_wp2
    go_ret
    exact ⟨rfl, rfl⟩
  · have d1 : decide (n < 1) = false := by simp; omega
    have d2 : decide (65536 < n) = true := by simp; omega
    go_enter Tryd.func93, Tryd.ntmps93
    go_wp2
    go_ret
    exact ⟨rfl, rfl⟩
def OutI (e : Ending) : Prop := ∃ i : Nat, e = .returned (.int .i64 i) ∧ i ≤ 16
theorem sizes_index_bad (A : Option Addr) (cv : Nat) (l : List Int) (hl : l.length ≤ 16) (h : ¬ ∀ n ∈ l, 1 ≤ n ∧ n ≤ 65536) (hc : 0 < l.length → ∃ g o, A = some ⟨g, o, none⟩ ∧ ∀ j (hj : j < l.length), w.cell? ⟨g, o + j, none⟩ = some (.int .i64 l[j])) :
    Calls Tryd.prog 110 #[.slice A l.length cv, .func (.func 93) #[] #[]] w fun x w' => OutI x ∧ w = w' := by
  have H := Lib.hid h
  have HC := Lib.hid hc
  clear h hc
  go_enter Tryd.func110, Tryd.ntmps110
  go_wp2
  go_loop [8] (fun i => ∃ k : Nat, k ≤ l.length ∧ i = .int .i64 k ∧ Hid (∀ n ∈ l.take k, 1 ≤ n ∧ n ≤ 65536)) (fun i => l.length - (intOf i).toNat)
  case atStart => exact ⟨0, Nat.zero_le _, rfl, Lib.hid (fun n hn => by simp at hn)⟩
  case round =>
    obtain ⟨k, hk, rfl, hq⟩ := hrel
    by_cases hlt : k < l.length
    · obtain ⟨g, o, rfl, hcc⟩ := HC.out (by omega)
      have hck := hcc k hlt
      by_cases hb : 1 ≤ l[k] ∧ l[k] ≤ 65536
      · have HN : Hid (∀ n ∈ l.take (k + 1), 1 ≤ n ∧ n ≤ 65536) := Lib.hid fun n hn => by
          rw [List.take_succ_eq_append_getElem hlt, List.mem_append, List.mem_singleton] at hn
          rcases hn with hn | rfl
          · exact hq.out n hn
          · exact hb
        obtain ⟨b1, b2⟩ := hb
        obtain ⟨r, hre⟩ : ∃ r, r = l[k] := ⟨_, rfl⟩
        rw [← hre] at hck b1 b2
        clear hcc hre hq
        go_wp2_with (go_at_call 93; refine (size_ok _ b1 b2 _).mono ?_; rintro x w3 ⟨rfl, rfl⟩)
        go_round
        case rel => exact ⟨k + 1, by omega, by go_num, HN⟩
        case measure => simp [intOf]; omega
      · have hb2 : l[k] < 1 ∨ 65536 < l[k] := by omega
        obtain ⟨r, hre⟩ : ∃ r, r = l[k] := ⟨_, rfl⟩
        rw [← hre] at hck hb2
        have HB := Lib.hid hb2
        clear hcc hre hq hb hb2
        go_wp2_with (go_at_call 93; refine (size_bad _ HB.out _).mono ?_; rintro x w3 ⟨rfl, rfl⟩)
        go_ret
        exact ⟨⟨k, rfl, by omega⟩, rfl⟩
    · exact absurd (fun n hn => hq.out n (by rw [List.take_of_length_le (by omega)]; exact hn)) H.out
theorem sizes_bad (A : Option Addr) (cv : Nat) (l : List Int) (hl : l.length ≤ 16) (h : ¬ ∀ n ∈ l, 1 ≤ n ∧ n ≤ 65536) (hc : 0 < l.length → ∃ g o, A = some ⟨g, o, none⟩ ∧ ∀ j (hj : j < l.length), w.cell? ⟨g, o + j, none⟩ = some (.int .i64 l[j])) :
    Calls Tryd.prog 92 #[.slice A l.length cv, .func (.func 93) #[] #[]] w fun x w' => x = .returned (.bool true) ∧ w = w' := by
  have H := Lib.hid (sizes_index_bad A cv l hl h hc)
  clear h hc
  go_enter Tryd.func92, Tryd.ntmps92
  go_wp2_with (go_at_call 110; refine H.out.mono ?_; rintro x w3 ⟨⟨i, rfl, hi⟩, rfl⟩)
  go_ret
  exact ⟨rfl, rfl⟩

set_option maxRecDepth 100000 in
set_option maxHeartbeats 4000000 in
theorem unitx_lim1 (hx : 16 < U.sizes.length) (B : ∃ x y, Blk w c 132 (ckC U Av cv Ab cb x y)) (hs : Row F w (.slice Av U.sizes.length cv) U.sizes.length 1 (numV U.sizes)) (hbig : U.sizes.length ≤ 4294967296 ∧ U.blocks.length ≤ 4294967296) :
    Calls Tryd.prog 75 #[.pointer (some ⟨c, 0, none⟩)] w fun x w' => Died 3 x ∧ Below w.heap.size w w' := by
  have hz : 0 < U.sizes.length → ∃ g o, Av = some ⟨g, o, none⟩ ∧ ∀ j (hj : j < U.sizes.length), w.cell? ⟨g, o + j, none⟩ = some (.int .i64 U.sizes[j]) := by
    intro h0
    obtain ⟨_, A, cc, e, _, _, hh⟩ := hs
    obtain ⟨g, o, e2, _, _, h3⟩ := hh h0
    injection e with e3
    exact ⟨g, o, e3.trans e2, fun j hj => h3 j _ (by simp [numV, hj])⟩
  obtain ⟨x0, y0, B0⟩ := B
  obtain ⟨hbg1, hbg2⟩ := hbig
  have lc : c < w.heap.size := B0.lt
  have nc : c ≠ w.heap.size := by omega
  have nc' := nc.symm
  have q0 : w.cell? ⟨c, 0, none⟩ = some (.slice Av U.sizes.length cv) := (B0.cell 0).trans rfl
  have q1 : w.cell? ⟨c, 1, none⟩ = some (.int .i64 U.params) := (B0.cell 1).trans rfl
  have q2 : w.cell? ⟨c, 2, none⟩ = some (.int .i64 U.regs) := (B0.cell 2).trans rfl
  have q3 : w.cell? ⟨c, 3, none⟩ = some (.int .i64 U.code) := (B0.cell 3).trans rfl
  have q4 : w.cell? ⟨c, 4, none⟩ = some (.int .i64 U.spill) := (B0.cell 4).trans rfl
  have q5 : w.cell? ⟨c, 5, none⟩ = some (.slice Ab U.blocks.length cb) := (B0.cell 5).trans rfl
  have HP : Hid (CkP (w.alloc (.cells #[.slice Av U.sizes.length cv, .int .i64 U.params, .int .i64 U.regs, .int .i64 U.code, .int .i64 U.spill, .slice Ab U.blocks.length cb] 25)) c) := Lib.hid (CkP.alloc ⟨x0, y0, (B0.cell 6).trans rfl, (B0.cell 7).trans rfl⟩ _)
  have HZ := Lib.hid hz
  clear B0 hs hz
  have d1 : decide ((U.sizes.length : Int) ≤ 16) = false := by simp; omega
  go_enter Tryd.func75, Tryd.ntmps75
  go_wp2_with (first
    | (go_at_call 91; (with_reducible refine (must_ok _ _ _).mono ?_); rintro x w3 ⟨rfl, rfl⟩)
    | (go_at_call 91; (with_reducible refine (must_bad (c := c) _ _ HP.out).mono ?_); rintro x w3 ⟨⟨b0, a0, rfl⟩, hb3⟩; have HB3 := Lib.hid hb3; clear hb3))
  exact ⟨rfl, ⟨_, _, rfl⟩, ((Below.refl _ w).alloc (Nat.le_refl _) _).trans (HB3.out.mono (by simp))⟩

set_option maxRecDepth 100000 in
set_option maxHeartbeats 4000000 in
theorem unitx_lim2 (gc : U.sizes.length ≤ 16) (hx : U.blocks.length < 1) (B : ∃ x y, Blk w c 132 (ckC U Av cv Ab cb x y)) (hs : Row F w (.slice Av U.sizes.length cv) U.sizes.length 1 (numV U.sizes)) (hbig : U.sizes.length ≤ 4294967296 ∧ U.blocks.length ≤ 4294967296) :
    Calls Tryd.prog 75 #[.pointer (some ⟨c, 0, none⟩)] w fun x w' => Died 3 x ∧ Below w.heap.size w w' := by
  have hz : 0 < U.sizes.length → ∃ g o, Av = some ⟨g, o, none⟩ ∧ ∀ j (hj : j < U.sizes.length), w.cell? ⟨g, o + j, none⟩ = some (.int .i64 U.sizes[j]) := by
    intro h0
    obtain ⟨_, A, cc, e, _, _, hh⟩ := hs
    obtain ⟨g, o, e2, _, _, h3⟩ := hh h0
    injection e with e3
    exact ⟨g, o, e3.trans e2, fun j hj => h3 j _ (by simp [numV, hj])⟩
  obtain ⟨x0, y0, B0⟩ := B
  obtain ⟨hbg1, hbg2⟩ := hbig
  have lc : c < w.heap.size := B0.lt
  have nc : c ≠ w.heap.size := by omega
  have nc' := nc.symm
  have q0 : w.cell? ⟨c, 0, none⟩ = some (.slice Av U.sizes.length cv) := (B0.cell 0).trans rfl
  have q1 : w.cell? ⟨c, 1, none⟩ = some (.int .i64 U.params) := (B0.cell 1).trans rfl
  have q2 : w.cell? ⟨c, 2, none⟩ = some (.int .i64 U.regs) := (B0.cell 2).trans rfl
  have q3 : w.cell? ⟨c, 3, none⟩ = some (.int .i64 U.code) := (B0.cell 3).trans rfl
  have q4 : w.cell? ⟨c, 4, none⟩ = some (.int .i64 U.spill) := (B0.cell 4).trans rfl
  have q5 : w.cell? ⟨c, 5, none⟩ = some (.slice Ab U.blocks.length cb) := (B0.cell 5).trans rfl
  have HP : Hid (CkP (w.alloc (.cells #[.slice Av U.sizes.length cv, .int .i64 U.params, .int .i64 U.regs, .int .i64 U.code, .int .i64 U.spill, .slice Ab U.blocks.length cb] 25)) c) := Lib.hid (CkP.alloc ⟨x0, y0, (B0.cell 6).trans rfl, (B0.cell 7).trans rfl⟩ _)
  have HZ := Lib.hid hz
  clear B0 hs hz
  have d1 : decide (1 ≤ (U.blocks.length : Int)) = false := by simp; omega
  go_enter Tryd.func75, Tryd.ntmps75
  go_wp2_with (first
    | (go_at_call 91; (with_reducible refine (must_ok _ _ _).mono ?_); rintro x w3 ⟨rfl, rfl⟩)
    | (go_at_call 91; (with_reducible refine (must_bad (c := c) _ _ HP.out).mono ?_); rintro x w3 ⟨⟨b0, a0, rfl⟩, hb3⟩; have HB3 := Lib.hid hb3; clear hb3))
  exact ⟨rfl, ⟨_, _, rfl⟩, ((Below.refl _ w).alloc (Nat.le_refl _) _).trans (HB3.out.mono (by simp))⟩

set_option maxRecDepth 100000 in
set_option maxHeartbeats 4000000 in
theorem unitx_lim3 (gc : U.sizes.length ≤ 16) (g1 : 0 < U.blocks.length) (hx : 2000 < U.blocks.length) (B : ∃ x y, Blk w c 132 (ckC U Av cv Ab cb x y)) (hs : Row F w (.slice Av U.sizes.length cv) U.sizes.length 1 (numV U.sizes)) (hbig : U.sizes.length ≤ 4294967296 ∧ U.blocks.length ≤ 4294967296) :
    Calls Tryd.prog 75 #[.pointer (some ⟨c, 0, none⟩)] w fun x w' => Died 3 x ∧ Below w.heap.size w w' := by
  have hz : 0 < U.sizes.length → ∃ g o, Av = some ⟨g, o, none⟩ ∧ ∀ j (hj : j < U.sizes.length), w.cell? ⟨g, o + j, none⟩ = some (.int .i64 U.sizes[j]) := by
    intro h0
    obtain ⟨_, A, cc, e, _, _, hh⟩ := hs
    obtain ⟨g, o, e2, _, _, h3⟩ := hh h0
    injection e with e3
    exact ⟨g, o, e3.trans e2, fun j hj => h3 j _ (by simp [numV, hj])⟩
  obtain ⟨x0, y0, B0⟩ := B
  obtain ⟨hbg1, hbg2⟩ := hbig
  have lc : c < w.heap.size := B0.lt
  have nc : c ≠ w.heap.size := by omega
  have nc' := nc.symm
  have q0 : w.cell? ⟨c, 0, none⟩ = some (.slice Av U.sizes.length cv) := (B0.cell 0).trans rfl
  have q1 : w.cell? ⟨c, 1, none⟩ = some (.int .i64 U.params) := (B0.cell 1).trans rfl
  have q2 : w.cell? ⟨c, 2, none⟩ = some (.int .i64 U.regs) := (B0.cell 2).trans rfl
  have q3 : w.cell? ⟨c, 3, none⟩ = some (.int .i64 U.code) := (B0.cell 3).trans rfl
  have q4 : w.cell? ⟨c, 4, none⟩ = some (.int .i64 U.spill) := (B0.cell 4).trans rfl
  have q5 : w.cell? ⟨c, 5, none⟩ = some (.slice Ab U.blocks.length cb) := (B0.cell 5).trans rfl
  have HP : Hid (CkP (w.alloc (.cells #[.slice Av U.sizes.length cv, .int .i64 U.params, .int .i64 U.regs, .int .i64 U.code, .int .i64 U.spill, .slice Ab U.blocks.length cb] 25)) c) := Lib.hid (CkP.alloc ⟨x0, y0, (B0.cell 6).trans rfl, (B0.cell 7).trans rfl⟩ _)
  have HZ := Lib.hid hz
  clear B0 hs hz
  have d1 : decide ((U.blocks.length : Int) ≤ 2000) = false := by simp; omega
  go_enter Tryd.func75, Tryd.ntmps75
  go_wp2_with (first
    | (go_at_call 91; (with_reducible refine (must_ok _ _ _).mono ?_); rintro x w3 ⟨rfl, rfl⟩)
    | (go_at_call 91; (with_reducible refine (must_bad (c := c) _ _ HP.out).mono ?_); rintro x w3 ⟨⟨b0, a0, rfl⟩, hb3⟩; have HB3 := Lib.hid hb3; clear hb3))
  exact ⟨rfl, ⟨_, _, rfl⟩, ((Below.refl _ w).alloc (Nat.le_refl _) _).trans (HB3.out.mono (by simp))⟩

set_option maxRecDepth 100000 in
set_option maxHeartbeats 4000000 in
theorem unitx_lim4 (gc : U.sizes.length ≤ 16) (g1 : 0 < U.blocks.length) (g2 : U.blocks.length ≤ 2000) (hx : 4096 < U.regs) (B : ∃ x y, Blk w c 132 (ckC U Av cv Ab cb x y)) (hs : Row F w (.slice Av U.sizes.length cv) U.sizes.length 1 (numV U.sizes)) (hbig : U.sizes.length ≤ 4294967296 ∧ U.blocks.length ≤ 4294967296) :
    Calls Tryd.prog 75 #[.pointer (some ⟨c, 0, none⟩)] w fun x w' => Died 3 x ∧ Below w.heap.size w w' := by
  have hz : 0 < U.sizes.length → ∃ g o, Av = some ⟨g, o, none⟩ ∧ ∀ j (hj : j < U.sizes.length), w.cell? ⟨g, o + j, none⟩ = some (.int .i64 U.sizes[j]) := by
    intro h0
    obtain ⟨_, A, cc, e, _, _, hh⟩ := hs
    obtain ⟨g, o, e2, _, _, h3⟩ := hh h0
    injection e with e3
    exact ⟨g, o, e3.trans e2, fun j hj => h3 j _ (by simp [numV, hj])⟩
  obtain ⟨x0, y0, B0⟩ := B
  obtain ⟨hbg1, hbg2⟩ := hbig
  have lc : c < w.heap.size := B0.lt
  have nc : c ≠ w.heap.size := by omega
  have nc' := nc.symm
  have q0 : w.cell? ⟨c, 0, none⟩ = some (.slice Av U.sizes.length cv) := (B0.cell 0).trans rfl
  have q1 : w.cell? ⟨c, 1, none⟩ = some (.int .i64 U.params) := (B0.cell 1).trans rfl
  have q2 : w.cell? ⟨c, 2, none⟩ = some (.int .i64 U.regs) := (B0.cell 2).trans rfl
  have q3 : w.cell? ⟨c, 3, none⟩ = some (.int .i64 U.code) := (B0.cell 3).trans rfl
  have q4 : w.cell? ⟨c, 4, none⟩ = some (.int .i64 U.spill) := (B0.cell 4).trans rfl
  have q5 : w.cell? ⟨c, 5, none⟩ = some (.slice Ab U.blocks.length cb) := (B0.cell 5).trans rfl
  have HP : Hid (CkP (w.alloc (.cells #[.slice Av U.sizes.length cv, .int .i64 U.params, .int .i64 U.regs, .int .i64 U.code, .int .i64 U.spill, .slice Ab U.blocks.length cb] 25)) c) := Lib.hid (CkP.alloc ⟨x0, y0, (B0.cell 6).trans rfl, (B0.cell 7).trans rfl⟩ _)
  have HZ := Lib.hid hz
  clear B0 hs hz
  have d1 : decide (U.regs ≤ 4096) = false := by simp; omega
  go_enter Tryd.func75, Tryd.ntmps75
  go_wp2_with (first
    | (go_at_call 91; (with_reducible refine (must_ok _ _ _).mono ?_); rintro x w3 ⟨rfl, rfl⟩)
    | (go_at_call 91; (with_reducible refine (must_bad (c := c) _ _ HP.out).mono ?_); rintro x w3 ⟨⟨b0, a0, rfl⟩, hb3⟩; have HB3 := Lib.hid hb3; clear hb3))
  exact ⟨rfl, ⟨_, _, rfl⟩, ((Below.refl _ w).alloc (Nat.le_refl _) _).trans (HB3.out.mono (by simp))⟩

set_option maxRecDepth 100000 in
set_option maxHeartbeats 4000000 in
theorem unitx_lim5 (gc : U.sizes.length ≤ 16) (g1 : 0 < U.blocks.length) (g2 : U.blocks.length ≤ 2000) (g4 : U.regs ≤ 4096) (hx : 4096 < U.spill) (B : ∃ x y, Blk w c 132 (ckC U Av cv Ab cb x y)) (hs : Row F w (.slice Av U.sizes.length cv) U.sizes.length 1 (numV U.sizes)) (hbig : U.sizes.length ≤ 4294967296 ∧ U.blocks.length ≤ 4294967296) :
    Calls Tryd.prog 75 #[.pointer (some ⟨c, 0, none⟩)] w fun x w' => Died 3 x ∧ Below w.heap.size w w' := by
  have hz : 0 < U.sizes.length → ∃ g o, Av = some ⟨g, o, none⟩ ∧ ∀ j (hj : j < U.sizes.length), w.cell? ⟨g, o + j, none⟩ = some (.int .i64 U.sizes[j]) := by
    intro h0
    obtain ⟨_, A, cc, e, _, _, hh⟩ := hs
    obtain ⟨g, o, e2, _, _, h3⟩ := hh h0
    injection e with e3
    exact ⟨g, o, e3.trans e2, fun j hj => h3 j _ (by simp [numV, hj])⟩
  obtain ⟨x0, y0, B0⟩ := B
  obtain ⟨hbg1, hbg2⟩ := hbig
  have lc : c < w.heap.size := B0.lt
  have nc : c ≠ w.heap.size := by omega
  have nc' := nc.symm
  have q0 : w.cell? ⟨c, 0, none⟩ = some (.slice Av U.sizes.length cv) := (B0.cell 0).trans rfl
  have q1 : w.cell? ⟨c, 1, none⟩ = some (.int .i64 U.params) := (B0.cell 1).trans rfl
  have q2 : w.cell? ⟨c, 2, none⟩ = some (.int .i64 U.regs) := (B0.cell 2).trans rfl
  have q3 : w.cell? ⟨c, 3, none⟩ = some (.int .i64 U.code) := (B0.cell 3).trans rfl
  have q4 : w.cell? ⟨c, 4, none⟩ = some (.int .i64 U.spill) := (B0.cell 4).trans rfl
  have q5 : w.cell? ⟨c, 5, none⟩ = some (.slice Ab U.blocks.length cb) := (B0.cell 5).trans rfl
  have HP : Hid (CkP (w.alloc (.cells #[.slice Av U.sizes.length cv, .int .i64 U.params, .int .i64 U.regs, .int .i64 U.code, .int .i64 U.spill, .slice Ab U.blocks.length cb] 25)) c) := Lib.hid (CkP.alloc ⟨x0, y0, (B0.cell 6).trans rfl, (B0.cell 7).trans rfl⟩ _)
  have HZ := Lib.hid hz
  clear B0 hs hz
  have d1 : decide (U.spill ≤ 4096) = false := by simp; omega
  go_enter Tryd.func75, Tryd.ntmps75
  go_wp2_with (first
    | (go_at_call 91; (with_reducible refine (must_ok _ _ _).mono ?_); rintro x w3 ⟨rfl, rfl⟩)
    | (go_at_call 91; (with_reducible refine (must_bad (c := c) _ _ HP.out).mono ?_); rintro x w3 ⟨⟨b0, a0, rfl⟩, hb3⟩; have HB3 := Lib.hid hb3; clear hb3))
  exact ⟨rfl, ⟨_, _, rfl⟩, ((Below.refl _ w).alloc (Nat.le_refl _) _).trans (HB3.out.mono (by simp))⟩

set_option maxRecDepth 100000 in
set_option maxHeartbeats 4000000 in
theorem unitx_sizes (gc : U.sizes.length ≤ 16) (g1 : 0 < U.blocks.length) (g2 : U.blocks.length ≤ 2000) (g4 : U.regs ≤ 4096) (g6 : U.spill ≤ 4096) (hx : ¬ ∀ n ∈ U.sizes, 1 ≤ n ∧ n ≤ 65536) (B : ∃ x y, Blk w c 132 (ckC U Av cv Ab cb x y)) (hs : Row F w (.slice Av U.sizes.length cv) U.sizes.length 1 (numV U.sizes)) (hbig : U.sizes.length ≤ 4294967296 ∧ U.blocks.length ≤ 4294967296) :
    Calls Tryd.prog 75 #[.pointer (some ⟨c, 0, none⟩)] w fun x w' => Died 2 x ∧ Below w.heap.size w w' := by
  have hz : 0 < U.sizes.length → ∃ g o, Av = some ⟨g, o, none⟩ ∧ ∀ j (hj : j < U.sizes.length), w.cell? ⟨g, o + j, none⟩ = some (.int .i64 U.sizes[j]) := by
    intro h0
    obtain ⟨_, A, cc, e, _, _, hh⟩ := hs
    obtain ⟨g, o, e2, _, _, h3⟩ := hh h0
    injection e with e3
    exact ⟨g, o, e3.trans e2, fun j hj => h3 j _ (by simp [numV, hj])⟩
  obtain ⟨x0, y0, B0⟩ := B
  obtain ⟨hbg1, hbg2⟩ := hbig
  have lc : c < w.heap.size := B0.lt
  have nc : c ≠ w.heap.size := by omega
  have nc' := nc.symm
  have q0 : w.cell? ⟨c, 0, none⟩ = some (.slice Av U.sizes.length cv) := (B0.cell 0).trans rfl
  have q1 : w.cell? ⟨c, 1, none⟩ = some (.int .i64 U.params) := (B0.cell 1).trans rfl
  have q2 : w.cell? ⟨c, 2, none⟩ = some (.int .i64 U.regs) := (B0.cell 2).trans rfl
  have q3 : w.cell? ⟨c, 3, none⟩ = some (.int .i64 U.code) := (B0.cell 3).trans rfl
  have q4 : w.cell? ⟨c, 4, none⟩ = some (.int .i64 U.spill) := (B0.cell 4).trans rfl
  have q5 : w.cell? ⟨c, 5, none⟩ = some (.slice Ab U.blocks.length cb) := (B0.cell 5).trans rfl
  have HP : Hid (CkP (w.alloc (.cells #[.slice Av U.sizes.length cv, .int .i64 U.params, .int .i64 U.regs, .int .i64 U.code, .int .i64 U.spill, .slice Ab U.blocks.length cb] 25)) c) := Lib.hid (CkP.alloc ⟨x0, y0, (B0.cell 6).trans rfl, (B0.cell 7).trans rfl⟩ _)
  have HZ := Lib.hid hz
  clear B0 hs hz
  have HS := Lib.hid hx
  clear hx
  go_enter Tryd.func75, Tryd.ntmps75
  go_wp2_with (first
    | (go_at_call 91; (with_reducible refine (must_ok _ _ _).mono ?_); rintro x w3 ⟨rfl, rfl⟩)
    | (go_at_call 91; (with_reducible refine (must_bad (c := c) _ _ HP.out).mono ?_); rintro x w3 ⟨⟨b0, a0, rfl⟩, hb3⟩; have HB3 := Lib.hid hb3; clear hb3)
    | (go_at_call 92; refine (sizes_bad _ _ U.sizes gc HS.out ?hc).mono ?_; (case hc => exact fun h0 => let ⟨g, o, e, h⟩ := HZ.out h0; ⟨g, o, e, fun j hj => cellA (h j hj)⟩); rintro x w3 ⟨rfl, rfl⟩))
  exact ⟨rfl, ⟨_, _, rfl⟩, ((Below.refl _ w).alloc (Nat.le_refl _) _).trans (HB3.out.mono (by simp))⟩

set_option maxRecDepth 100000 in
set_option maxHeartbeats 4000000 in
theorem unitx_regs (gc : U.sizes.length ≤ 16) (g1 : 0 < U.blocks.length) (g2 : U.blocks.length ≤ 2000) (g4 : U.regs ≤ 4096) (g6 : U.spill ≤ 4096) (hsz : ∀ n ∈ U.sizes, 1 ≤ n ∧ n ≤ 65536) (hx : U.regs < 1) (B : ∃ x y, Blk w c 132 (ckC U Av cv Ab cb x y)) (hs : Row F w (.slice Av U.sizes.length cv) U.sizes.length 1 (numV U.sizes)) (hbig : U.sizes.length ≤ 4294967296 ∧ U.blocks.length ≤ 4294967296) :
    Calls Tryd.prog 75 #[.pointer (some ⟨c, 0, none⟩)] w fun x w' => Died 2 x ∧ Below w.heap.size w w' := by
  have hz : 0 < U.sizes.length → ∃ g o, Av = some ⟨g, o, none⟩ ∧ ∀ j (hj : j < U.sizes.length), w.cell? ⟨g, o + j, none⟩ = some (.int .i64 U.sizes[j]) := by
    intro h0
    obtain ⟨_, A, cc, e, _, _, hh⟩ := hs
    obtain ⟨g, o, e2, _, _, h3⟩ := hh h0
    injection e with e3
    exact ⟨g, o, e3.trans e2, fun j hj => h3 j _ (by simp [numV, hj])⟩
  obtain ⟨x0, y0, B0⟩ := B
  obtain ⟨hbg1, hbg2⟩ := hbig
  have lc : c < w.heap.size := B0.lt
  have nc : c ≠ w.heap.size := by omega
  have nc' := nc.symm
  have q0 : w.cell? ⟨c, 0, none⟩ = some (.slice Av U.sizes.length cv) := (B0.cell 0).trans rfl
  have q1 : w.cell? ⟨c, 1, none⟩ = some (.int .i64 U.params) := (B0.cell 1).trans rfl
  have q2 : w.cell? ⟨c, 2, none⟩ = some (.int .i64 U.regs) := (B0.cell 2).trans rfl
  have q3 : w.cell? ⟨c, 3, none⟩ = some (.int .i64 U.code) := (B0.cell 3).trans rfl
  have q4 : w.cell? ⟨c, 4, none⟩ = some (.int .i64 U.spill) := (B0.cell 4).trans rfl
  have q5 : w.cell? ⟨c, 5, none⟩ = some (.slice Ab U.blocks.length cb) := (B0.cell 5).trans rfl
  have HP : Hid (CkP (w.alloc (.cells #[.slice Av U.sizes.length cv, .int .i64 U.params, .int .i64 U.regs, .int .i64 U.code, .int .i64 U.spill, .slice Ab U.blocks.length cb] 25)) c) := Lib.hid (CkP.alloc ⟨x0, y0, (B0.cell 6).trans rfl, (B0.cell 7).trans rfl⟩ _)
  have HZ := Lib.hid hz
  clear B0 hs hz
  have HS := Lib.hid hsz
  clear hsz
  have d1 : decide (1 ≤ U.regs) = false := by simp; omega
  go_enter Tryd.func75, Tryd.ntmps75
  go_wp2_with (first
    | (go_at_call 91; (with_reducible refine (must_ok _ _ _).mono ?_); rintro x w3 ⟨rfl, rfl⟩)
    | (go_at_call 91; (with_reducible refine (must_bad (c := c) _ _ HP.out).mono ?_); rintro x w3 ⟨⟨b0, a0, rfl⟩, hb3⟩; have HB3 := Lib.hid hb3; clear hb3)
    | (go_at_call 92; refine (sizes_ok _ _ U.sizes gc HS.out ?hc).mono ?_; (case hc => exact fun h0 => let ⟨g, o, e, h⟩ := HZ.out h0; ⟨g, o, e, fun j hj => cellA (h j hj)⟩); rintro x w3 ⟨rfl, rfl⟩))
  exact ⟨rfl, ⟨_, _, rfl⟩, ((Below.refl _ w).alloc (Nat.le_refl _) _).trans (HB3.out.mono (by simp))⟩

set_option maxRecDepth 100000 in
set_option maxHeartbeats 4000000 in
theorem unitx_spill (gc : U.sizes.length ≤ 16) (g1 : 0 < U.blocks.length) (g2 : U.blocks.length ≤ 2000) (g4 : U.regs ≤ 4096) (g6 : U.spill ≤ 4096) (hsz : ∀ n ∈ U.sizes, 1 ≤ n ∧ n ≤ 65536) (g3 : 1 ≤ U.regs) (hx : U.spill < 0) (B : ∃ x y, Blk w c 132 (ckC U Av cv Ab cb x y)) (hs : Row F w (.slice Av U.sizes.length cv) U.sizes.length 1 (numV U.sizes)) (hbig : U.sizes.length ≤ 4294967296 ∧ U.blocks.length ≤ 4294967296) :
    Calls Tryd.prog 75 #[.pointer (some ⟨c, 0, none⟩)] w fun x w' => Died 2 x ∧ Below w.heap.size w w' := by
  have hz : 0 < U.sizes.length → ∃ g o, Av = some ⟨g, o, none⟩ ∧ ∀ j (hj : j < U.sizes.length), w.cell? ⟨g, o + j, none⟩ = some (.int .i64 U.sizes[j]) := by
    intro h0
    obtain ⟨_, A, cc, e, _, _, hh⟩ := hs
    obtain ⟨g, o, e2, _, _, h3⟩ := hh h0
    injection e with e3
    exact ⟨g, o, e3.trans e2, fun j hj => h3 j _ (by simp [numV, hj])⟩
  obtain ⟨x0, y0, B0⟩ := B
  obtain ⟨hbg1, hbg2⟩ := hbig
  have lc : c < w.heap.size := B0.lt
  have nc : c ≠ w.heap.size := by omega
  have nc' := nc.symm
  have q0 : w.cell? ⟨c, 0, none⟩ = some (.slice Av U.sizes.length cv) := (B0.cell 0).trans rfl
  have q1 : w.cell? ⟨c, 1, none⟩ = some (.int .i64 U.params) := (B0.cell 1).trans rfl
  have q2 : w.cell? ⟨c, 2, none⟩ = some (.int .i64 U.regs) := (B0.cell 2).trans rfl
  have q3 : w.cell? ⟨c, 3, none⟩ = some (.int .i64 U.code) := (B0.cell 3).trans rfl
  have q4 : w.cell? ⟨c, 4, none⟩ = some (.int .i64 U.spill) := (B0.cell 4).trans rfl
  have q5 : w.cell? ⟨c, 5, none⟩ = some (.slice Ab U.blocks.length cb) := (B0.cell 5).trans rfl
  have HP : Hid (CkP (w.alloc (.cells #[.slice Av U.sizes.length cv, .int .i64 U.params, .int .i64 U.regs, .int .i64 U.code, .int .i64 U.spill, .slice Ab U.blocks.length cb] 25)) c) := Lib.hid (CkP.alloc ⟨x0, y0, (B0.cell 6).trans rfl, (B0.cell 7).trans rfl⟩ _)
  have HZ := Lib.hid hz
  clear B0 hs hz
  have HS := Lib.hid hsz
  clear hsz
  have d1 : decide (0 ≤ U.spill) = false := by simp; omega
  go_enter Tryd.func75, Tryd.ntmps75
  go_wp2_with (first
    | (go_at_call 91; (with_reducible refine (must_ok _ _ _).mono ?_); rintro x w3 ⟨rfl, rfl⟩)
    | (go_at_call 91; (with_reducible refine (must_bad (c := c) _ _ HP.out).mono ?_); rintro x w3 ⟨⟨b0, a0, rfl⟩, hb3⟩; have HB3 := Lib.hid hb3; clear hb3)
    | (go_at_call 92; refine (sizes_ok _ _ U.sizes gc HS.out ?hc).mono ?_; (case hc => exact fun h0 => let ⟨g, o, e, h⟩ := HZ.out h0; ⟨g, o, e, fun j hj => cellA (h j hj)⟩); rintro x w3 ⟨rfl, rfl⟩))
  exact ⟨rfl, ⟨_, _, rfl⟩, ((Below.refl _ w).alloc (Nat.le_refl _) _).trans (HB3.out.mono (by simp))⟩

set_option maxRecDepth 100000 in
set_option maxHeartbeats 4000000 in
theorem unitx_par1 (gc : U.sizes.length ≤ 16) (g1 : 0 < U.blocks.length) (g2 : U.blocks.length ≤ 2000) (g4 : U.regs ≤ 4096) (g6 : U.spill ≤ 4096) (hsz : ∀ n ∈ U.sizes, 1 ≤ n ∧ n ≤ 65536) (g3 : 1 ≤ U.regs) (g5 : 0 ≤ U.spill) (hx : U.params < 0) (B : ∃ x y, Blk w c 132 (ckC U Av cv Ab cb x y)) (hs : Row F w (.slice Av U.sizes.length cv) U.sizes.length 1 (numV U.sizes)) (hbig : U.sizes.length ≤ 4294967296 ∧ U.blocks.length ≤ 4294967296) :
    Calls Tryd.prog 75 #[.pointer (some ⟨c, 0, none⟩)] w fun x w' => Died 2 x ∧ Below w.heap.size w w' := by
  have hz : 0 < U.sizes.length → ∃ g o, Av = some ⟨g, o, none⟩ ∧ ∀ j (hj : j < U.sizes.length), w.cell? ⟨g, o + j, none⟩ = some (.int .i64 U.sizes[j]) := by
    intro h0
    obtain ⟨_, A, cc, e, _, _, hh⟩ := hs
    obtain ⟨g, o, e2, _, _, h3⟩ := hh h0
    injection e with e3
    exact ⟨g, o, e3.trans e2, fun j hj => h3 j _ (by simp [numV, hj])⟩
  obtain ⟨x0, y0, B0⟩ := B
  obtain ⟨hbg1, hbg2⟩ := hbig
  have lc : c < w.heap.size := B0.lt
  have nc : c ≠ w.heap.size := by omega
  have nc' := nc.symm
  have q0 : w.cell? ⟨c, 0, none⟩ = some (.slice Av U.sizes.length cv) := (B0.cell 0).trans rfl
  have q1 : w.cell? ⟨c, 1, none⟩ = some (.int .i64 U.params) := (B0.cell 1).trans rfl
  have q2 : w.cell? ⟨c, 2, none⟩ = some (.int .i64 U.regs) := (B0.cell 2).trans rfl
  have q3 : w.cell? ⟨c, 3, none⟩ = some (.int .i64 U.code) := (B0.cell 3).trans rfl
  have q4 : w.cell? ⟨c, 4, none⟩ = some (.int .i64 U.spill) := (B0.cell 4).trans rfl
  have q5 : w.cell? ⟨c, 5, none⟩ = some (.slice Ab U.blocks.length cb) := (B0.cell 5).trans rfl
  have HP : Hid (CkP (w.alloc (.cells #[.slice Av U.sizes.length cv, .int .i64 U.params, .int .i64 U.regs, .int .i64 U.code, .int .i64 U.spill, .slice Ab U.blocks.length cb] 25)) c) := Lib.hid (CkP.alloc ⟨x0, y0, (B0.cell 6).trans rfl, (B0.cell 7).trans rfl⟩ _)
  have HZ := Lib.hid hz
  clear B0 hs hz
  have HS := Lib.hid hsz
  clear hsz
  have d1 : decide (0 ≤ U.params) = false := by simp; omega
  go_enter Tryd.func75, Tryd.ntmps75
  go_wp2_with (first
    | (go_at_call 91; (with_reducible refine (must_ok _ _ _).mono ?_); rintro x w3 ⟨rfl, rfl⟩)
    | (go_at_call 91; (with_reducible refine (must_bad (c := c) _ _ HP.out).mono ?_); rintro x w3 ⟨⟨b0, a0, rfl⟩, hb3⟩; have HB3 := Lib.hid hb3; clear hb3)
    | (go_at_call 92; refine (sizes_ok _ _ U.sizes gc HS.out ?hc).mono ?_; (case hc => exact fun h0 => let ⟨g, o, e, h⟩ := HZ.out h0; ⟨g, o, e, fun j hj => cellA (h j hj)⟩); rintro x w3 ⟨rfl, rfl⟩))
  exact ⟨rfl, ⟨_, _, rfl⟩, ((Below.refl _ w).alloc (Nat.le_refl _) _).trans (HB3.out.mono (by simp))⟩

set_option maxRecDepth 100000 in
set_option maxHeartbeats 4000000 in
theorem unitx_par2 (gc : U.sizes.length ≤ 16) (g1 : 0 < U.blocks.length) (g2 : U.blocks.length ≤ 2000) (g4 : U.regs ≤ 4096) (g6 : U.spill ≤ 4096) (hsz : ∀ n ∈ U.sizes, 1 ≤ n ∧ n ≤ 65536) (g3 : 1 ≤ U.regs) (g5 : 0 ≤ U.spill) (g7 : 0 ≤ U.params) (hx : 8 < U.params) (B : ∃ x y, Blk w c 132 (ckC U Av cv Ab cb x y)) (hs : Row F w (.slice Av U.sizes.length cv) U.sizes.length 1 (numV U.sizes)) (hbig : U.sizes.length ≤ 4294967296 ∧ U.blocks.length ≤ 4294967296) :
    Calls Tryd.prog 75 #[.pointer (some ⟨c, 0, none⟩)] w fun x w' => Died 2 x ∧ Below w.heap.size w w' := by
  have hz : 0 < U.sizes.length → ∃ g o, Av = some ⟨g, o, none⟩ ∧ ∀ j (hj : j < U.sizes.length), w.cell? ⟨g, o + j, none⟩ = some (.int .i64 U.sizes[j]) := by
    intro h0
    obtain ⟨_, A, cc, e, _, _, hh⟩ := hs
    obtain ⟨g, o, e2, _, _, h3⟩ := hh h0
    injection e with e3
    exact ⟨g, o, e3.trans e2, fun j hj => h3 j _ (by simp [numV, hj])⟩
  obtain ⟨x0, y0, B0⟩ := B
  obtain ⟨hbg1, hbg2⟩ := hbig
  have lc : c < w.heap.size := B0.lt
  have nc : c ≠ w.heap.size := by omega
  have nc' := nc.symm
  have q0 : w.cell? ⟨c, 0, none⟩ = some (.slice Av U.sizes.length cv) := (B0.cell 0).trans rfl
  have q1 : w.cell? ⟨c, 1, none⟩ = some (.int .i64 U.params) := (B0.cell 1).trans rfl
  have q2 : w.cell? ⟨c, 2, none⟩ = some (.int .i64 U.regs) := (B0.cell 2).trans rfl
  have q3 : w.cell? ⟨c, 3, none⟩ = some (.int .i64 U.code) := (B0.cell 3).trans rfl
  have q4 : w.cell? ⟨c, 4, none⟩ = some (.int .i64 U.spill) := (B0.cell 4).trans rfl
  have q5 : w.cell? ⟨c, 5, none⟩ = some (.slice Ab U.blocks.length cb) := (B0.cell 5).trans rfl
  have HP : Hid (CkP (w.alloc (.cells #[.slice Av U.sizes.length cv, .int .i64 U.params, .int .i64 U.regs, .int .i64 U.code, .int .i64 U.spill, .slice Ab U.blocks.length cb] 25)) c) := Lib.hid (CkP.alloc ⟨x0, y0, (B0.cell 6).trans rfl, (B0.cell 7).trans rfl⟩ _)
  have HZ := Lib.hid hz
  clear B0 hs hz
  have HS := Lib.hid hsz
  clear hsz
  have d1 : decide (U.params ≤ 8) = false := by simp; omega
  go_enter Tryd.func75, Tryd.ntmps75
  go_wp2_with (first
    | (go_at_call 91; (with_reducible refine (must_ok _ _ _).mono ?_); rintro x w3 ⟨rfl, rfl⟩)
    | (go_at_call 91; (with_reducible refine (must_bad (c := c) _ _ HP.out).mono ?_); rintro x w3 ⟨⟨b0, a0, rfl⟩, hb3⟩; have HB3 := Lib.hid hb3; clear hb3)
    | (go_at_call 92; refine (sizes_ok _ _ U.sizes gc HS.out ?hc).mono ?_; (case hc => exact fun h0 => let ⟨g, o, e, h⟩ := HZ.out h0; ⟨g, o, e, fun j hj => cellA (h j hj)⟩); rintro x w3 ⟨rfl, rfl⟩))
  exact ⟨rfl, ⟨_, _, rfl⟩, ((Below.refl _ w).alloc (Nat.le_refl _) _).trans (HB3.out.mono (by simp))⟩

set_option maxRecDepth 100000 in
set_option maxHeartbeats 4000000 in
theorem unitx_par3 (gc : U.sizes.length ≤ 16) (g1 : 0 < U.blocks.length) (g2 : U.blocks.length ≤ 2000) (g4 : U.regs ≤ 4096) (g6 : U.spill ≤ 4096) (hsz : ∀ n ∈ U.sizes, 1 ≤ n ∧ n ≤ 65536) (g3 : 1 ≤ U.regs) (g5 : 0 ≤ U.spill) (g7 : 0 ≤ U.params) (g8 : U.params ≤ 8) (hx : U.regs < U.params) (B : ∃ x y, Blk w c 132 (ckC U Av cv Ab cb x y)) (hs : Row F w (.slice Av U.sizes.length cv) U.sizes.length 1 (numV U.sizes)) (hbig : U.sizes.length ≤ 4294967296 ∧ U.blocks.length ≤ 4294967296) :
    Calls Tryd.prog 75 #[.pointer (some ⟨c, 0, none⟩)] w fun x w' => Died 2 x ∧ Below w.heap.size w w' := by
  have hz : 0 < U.sizes.length → ∃ g o, Av = some ⟨g, o, none⟩ ∧ ∀ j (hj : j < U.sizes.length), w.cell? ⟨g, o + j, none⟩ = some (.int .i64 U.sizes[j]) := by
    intro h0
    obtain ⟨_, A, cc, e, _, _, hh⟩ := hs
    obtain ⟨g, o, e2, _, _, h3⟩ := hh h0
    injection e with e3
    exact ⟨g, o, e3.trans e2, fun j hj => h3 j _ (by simp [numV, hj])⟩
  obtain ⟨x0, y0, B0⟩ := B
  obtain ⟨hbg1, hbg2⟩ := hbig
  have lc : c < w.heap.size := B0.lt
  have nc : c ≠ w.heap.size := by omega
  have nc' := nc.symm
  have q0 : w.cell? ⟨c, 0, none⟩ = some (.slice Av U.sizes.length cv) := (B0.cell 0).trans rfl
  have q1 : w.cell? ⟨c, 1, none⟩ = some (.int .i64 U.params) := (B0.cell 1).trans rfl
  have q2 : w.cell? ⟨c, 2, none⟩ = some (.int .i64 U.regs) := (B0.cell 2).trans rfl
  have q3 : w.cell? ⟨c, 3, none⟩ = some (.int .i64 U.code) := (B0.cell 3).trans rfl
  have q4 : w.cell? ⟨c, 4, none⟩ = some (.int .i64 U.spill) := (B0.cell 4).trans rfl
  have q5 : w.cell? ⟨c, 5, none⟩ = some (.slice Ab U.blocks.length cb) := (B0.cell 5).trans rfl
  have HP : Hid (CkP (w.alloc (.cells #[.slice Av U.sizes.length cv, .int .i64 U.params, .int .i64 U.regs, .int .i64 U.code, .int .i64 U.spill, .slice Ab U.blocks.length cb] 25)) c) := Lib.hid (CkP.alloc ⟨x0, y0, (B0.cell 6).trans rfl, (B0.cell 7).trans rfl⟩ _)
  have HZ := Lib.hid hz
  clear B0 hs hz
  have HS := Lib.hid hsz
  clear hsz
  have d1 : decide (U.params ≤ U.regs) = false := by simp; omega
  go_enter Tryd.func75, Tryd.ntmps75
  go_wp2_with (first
    | (go_at_call 91; (with_reducible refine (must_ok _ _ _).mono ?_); rintro x w3 ⟨rfl, rfl⟩)
    | (go_at_call 91; (with_reducible refine (must_bad (c := c) _ _ HP.out).mono ?_); rintro x w3 ⟨⟨b0, a0, rfl⟩, hb3⟩; have HB3 := Lib.hid hb3; clear hb3)
    | (go_at_call 92; refine (sizes_ok _ _ U.sizes gc HS.out ?hc).mono ?_; (case hc => exact fun h0 => let ⟨g, o, e, h⟩ := HZ.out h0; ⟨g, o, e, fun j hj => cellA (h j hj)⟩); rintro x w3 ⟨rfl, rfl⟩))
  exact ⟨rfl, ⟨_, _, rfl⟩, ((Below.refl _ w).alloc (Nat.le_refl _) _).trans (HB3.out.mono (by simp))⟩

set_option maxRecDepth 100000 in
set_option maxHeartbeats 4000000 in
theorem unitx_code (gc : U.sizes.length ≤ 16) (g1 : 0 < U.blocks.length) (g2 : U.blocks.length ≤ 2000) (g4 : U.regs ≤ 4096) (g6 : U.spill ≤ 4096) (hsz : ∀ n ∈ U.sizes, 1 ≤ n ∧ n ≤ 65536) (g3 : 1 ≤ U.regs) (g5 : 0 ≤ U.spill) (g7 : 0 ≤ U.params) (g8 : U.params ≤ 8) (g9 : U.params ≤ U.regs) (hx : ¬ inR U.code U.regs) (B : ∃ x y, Blk w c 132 (ckC U Av cv Ab cb x y)) (hs : Row F w (.slice Av U.sizes.length cv) U.sizes.length 1 (numV U.sizes)) (hbig : U.sizes.length ≤ 4294967296 ∧ U.blocks.length ≤ 4294967296) :
    Calls Tryd.prog 75 #[.pointer (some ⟨c, 0, none⟩)] w fun x w' => Died 2 x ∧ Below w.heap.size w w' := by
  have hz : 0 < U.sizes.length → ∃ g o, Av = some ⟨g, o, none⟩ ∧ ∀ j (hj : j < U.sizes.length), w.cell? ⟨g, o + j, none⟩ = some (.int .i64 U.sizes[j]) := by
    intro h0
    obtain ⟨_, A, cc, e, _, _, hh⟩ := hs
    obtain ⟨g, o, e2, _, _, h3⟩ := hh h0
    injection e with e3
    exact ⟨g, o, e3.trans e2, fun j hj => h3 j _ (by simp [numV, hj])⟩
  obtain ⟨x0, y0, B0⟩ := B
  obtain ⟨hbg1, hbg2⟩ := hbig
  have lc : c < w.heap.size := B0.lt
  have nc : c ≠ w.heap.size := by omega
  have nc' := nc.symm
  have q0 : w.cell? ⟨c, 0, none⟩ = some (.slice Av U.sizes.length cv) := (B0.cell 0).trans rfl
  have q1 : w.cell? ⟨c, 1, none⟩ = some (.int .i64 U.params) := (B0.cell 1).trans rfl
  have q2 : w.cell? ⟨c, 2, none⟩ = some (.int .i64 U.regs) := (B0.cell 2).trans rfl
  have q3 : w.cell? ⟨c, 3, none⟩ = some (.int .i64 U.code) := (B0.cell 3).trans rfl
  have q4 : w.cell? ⟨c, 4, none⟩ = some (.int .i64 U.spill) := (B0.cell 4).trans rfl
  have q5 : w.cell? ⟨c, 5, none⟩ = some (.slice Ab U.blocks.length cb) := (B0.cell 5).trans rfl
  have HP : Hid (CkP (w.alloc (.cells #[.slice Av U.sizes.length cv, .int .i64 U.params, .int .i64 U.regs, .int .i64 U.code, .int .i64 U.spill, .slice Ab U.blocks.length cb] 25)) c) := Lib.hid (CkP.alloc ⟨x0, y0, (B0.cell 6).trans rfl, (B0.cell 7).trans rfl⟩ _)
  have HZ := Lib.hid hz
  clear B0 hs hz
  have HS := Lib.hid hsz
  clear hsz
  have HX := Lib.hid hx
  clear hx
  go_enter Tryd.func75, Tryd.ntmps75
  go_wp2_with (first
    | (go_at_call 91; (with_reducible refine (must_ok _ _ _).mono ?_); rintro x w3 ⟨rfl, rfl⟩)
    | (go_at_call 91; (with_reducible refine (must_bad (c := c) _ _ HP.out).mono ?_); rintro x w3 ⟨⟨b0, a0, rfl⟩, hb3⟩; have HB3 := Lib.hid hb3; clear hb3)
    | (go_at_call 92; refine (sizes_ok _ _ U.sizes gc HS.out ?hc).mono ?_; (case hc => exact fun h0 => let ⟨g, o, e, h⟩ := HZ.out h0; ⟨g, o, e, fun j hj => cellA (h j hj)⟩); rintro x w3 ⟨rfl, rfl⟩)
    | (go_at_call 70; refine (within_no _ _ HX.out _).mono ?_; rintro x w3 ⟨rfl, rfl⟩))
  exact ⟨rfl, ⟨_, _, rfl⟩, ((Below.refl _ w).alloc (Nat.le_refl _) _).trans (HB3.out.mono (by simp))⟩

end Go.Proofs.YtfkjkdoloamakaaDoor
