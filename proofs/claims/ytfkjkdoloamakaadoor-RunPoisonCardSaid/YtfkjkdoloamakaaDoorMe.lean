import Derived.Test.YtfkjkdoloamakaaDoorRz
import Derived.Defers
import Derived.Recover
import Derived.Test.YtfkjkdoloamakaaDoorMb
import Derived.Lib.SliceRun
import Derived.Test.YtfkjkdoloamakaaDoorRq
/- The checker of package code: what it says of wrong registers; the errors of operations and ends as functions. -/
namespace Go.Proofs.YtfkjkdoloamakaaDoor
open Go.RowKit
set_option linter.unusedVariables false
set_option linter.unusedSimpArgs false
variable {w : World} {c : Nat} {U : UnS} {Av Ab : Option Addr} {cv cb : Nat}
/-- a call that ends in the checker's panic, with this error -/
def Died (e : Int) (x : Ending) : Prop := ∃ b a : Int, x = .panicked [{ v := .iface 105 (.agg #[.int .i64 b, .int .i64 a, .int .i64 e]), recovered := false }]
/-- where a checker is, in memory -/
def CkP (w : World) (c : Nat) : Prop := ∃ x y : Int, w.cell? ⟨c, 6, none⟩ = some (.int .i64 x) ∧ w.cell? ⟨c, 7, none⟩ = some (.int .i64 y)
theorem CkP.below {w' : World} (h : CkP w c) (hb : Below w.heap.size w w') : CkP w' c := by
  obtain ⟨x, y, h1, h2⟩ := h
  exact ⟨x, y, (hb.cell (p := ⟨c, 6, none⟩) (lt_cell h1)).trans h1, (hb.cell (p := ⟨c, 7, none⟩) (lt_cell h2)).trans h2⟩
theorem CkP.alloc (h : CkP w c) (o : Obj) : CkP (w.alloc o) c := h.below ((Below.refl _ _).alloc (Nat.le_refl _) _)
set_option maxRecDepth 100000 in
theorem must_bad (e : Int) (w : World) (h : CkP w c) : Calls Tryd.prog 91 #[.pointer (some ⟨c, 0, none⟩), .bool false, .int .i64 e] w fun x w' => Died e x ∧ Below w.heap.size w w' := by
  obtain ⟨a, b, h6, h7⟩ := h
  have lc := lt_cell h6
  have nc : c ≠ w.heap.size := by omega
  have nc' := nc.symm
  go_enter Tryd.func91, Tryd.ntmps91
  go_wp2
  go_still_tail 11, (by kernel_rfl)
  change wpList _ _ _ _ _ w.drew
  go_wp2
  exact ⟨rfl, ⟨_, _, rfl⟩, (Below.refl _ _).drew⟩
theorem within_no (n m : Int) (h : ¬ inR n m) (w : World) : Calls Tryd.prog 70 #[.int .i64 n, .int .i64 m] w fun x w' => x = .returned (.bool false) ∧ w = w' := by
  by_cases h0 : 0 ≤ n
  · have h1 : m ≤ n := by
      rcases Int.lt_or_le n m with h' | h'
      · exact absurd ⟨h0, h'⟩ h
      · exact h'
    have hd : decide (n < m) = false := by simpa using h1
    clear h
    go_enter Tryd.func70, Tryd.ntmps70
    go_wp2
    go_ret
    exact ⟨rfl, rfl⟩
  · clear h
    go_enter Tryd.func70, Tryd.ntmps70
    go_wp2
    go_ret
    exact ⟨rfl, rfl⟩
theorem reg_bad (r : Int) (h : ¬ inR r U.regs) (h2 : w.cell? ⟨c, 2, none⟩ = some (.int .i64 U.regs)) (h3 : CkP w c) :
    Calls Tryd.prog 112 #[.pointer (some ⟨c, 0, none⟩), .int .i64 r, .bool true] w fun x w' => Died 2 x ∧ Below w.heap.size w w' := by
  have H := Lib.hid h
  have H3 := Lib.hid h3
  clear h h3
  go_enter Tryd.func112, Tryd.ntmps112
  go_wp2_with (first | (go_at_call 70; refine (within_no _ _ H.out _).mono ?_; rintro x w1 ⟨rfl, rfl⟩) | (go_at_call 91; refine (must_bad _ _ H3.out).mono ?_; rintro x w1 ⟨⟨b, a, rfl⟩, hb⟩; have HB := Lib.hid hb; clear hb))
  exact ⟨rfl, ⟨b, a, rfl⟩, HB.out⟩
end Go.Proofs.YtfkjkdoloamakaaDoor

/- Check of package code answers OK to a right unit. -/
namespace Go.Proofs.YtfkjkdoloamakaaDoor
open Go.RowKit
set_option linter.unusedVariables false
set_option linter.unusedSimpArgs false
variable {w : World} {c : Nat} {U : UnS} {Av Ab : Option Addr} {cv cb : Nat} {F : Nat → Prop}

theorem fault_e (a b c : Int) (w : World) : (Instr.field 105 (.agg #[.int .i64 a, .int .i64 b, .int .i64 c]) 2).run Tryd.prog w = .ok (.int .i64 c) w := by kernel_rfl
/-- a unit as a value -/
def unV (U : UnS) (Av : Option Addr) (cv : Nat) (Ab : Option Addr) (cb : Nat) : Value :=
  .agg #[.slice Av U.sizes.length cv, .int .i64 U.params, .int .i64 U.regs, .int .i64 U.code, .int .i64 U.spill, .slice Ab U.blocks.length cb]
theorem find1_idle (p : Addr) (w : World) :
    CallsD Tryd.prog 74 #[.pointer (some p)] .returning w fun e u' w' => e = .returned (.tuple #[]) ∧ u' = .returning ∧ w' = w := by
  refine callsD_of_wpS Tryd.func74 rfl fun c₀ cs hu => ?_
  apply wpS_seq
  apply wpS_region
  simp [wpOpsS, go_sem, recoverD, hu, Tryd.ntmps74, Exit.thenS]
  apply wpS_seq
  apply wpS_region
  simp [wpOpsS, go_sem, Exit.thenS]
  refine wpS_cond (t := false) (by simp [Act.eval, Array.replicate]) ?_
  simp only [Bool.false_eq_true, if_false]
  refine wpS_of_wp (wp_skip ?_)
  cases c₀
  simp_all [bodyPostS, results, Tryd.results74]
theorem frz {M : Nat → Prop} {w w' : World} (h : Fr M w w') {a : Addr} {v : Bool} (hc : w.frozen? a = v) (hl : a.block < w.heap.size) (hn : ¬ M a.block) : w'.frozen? a = v :=
  (World.frozen?_of_block (h.block a.block hl hn)).trans hc
set_option maxRecDepth 100000 in
theorem find_ok (G : UnFine U) (hs : Row F w (.slice Av U.sizes.length cv) U.sizes.length 1 (numV U.sizes)) (hr : RdBlocks F w (.slice Ab U.blocks.length cb) U.blocks) (hF : ∀ g, F g → g < w.heap.size) (V : Env w) :
    Calls Tryd.prog 43 #[unV U Av cv Ab cb] w fun x w' => x = .returned (.agg #[.int .i64 0, .int .i64 0, .int .i64 0]) ∧ Below w.heap.size w w' := by
  have hmf : ∀ (fn : Fn) (first cap : Array Value) (w : World), (Instr.makeFunc fn first cap).run Tryd.prog w = .ok (.func fn first cap) w := fun _ _ _ _ => rfl
  have HG := Lib.hid G
  have HS := Lib.hid hs
  have HR := Lib.hid hr
  have HF := Lib.hid hF
  have HV := Lib.hid V
  clear G hs hr hF V
  unfold unV
  go_enter_defers Tryd.func43, Tryd.ntmps43
  go_wp2_with (go_at_call 75; refine (unit_ok (U := U) (Av := Av) (cv := cv) (Ab := Ab) (cb := cb) (F := F) HG.out ⟨0, 0, ?bk⟩ ?hs ?hr ?hF ?hV ?hg).mono ?_; (case bk => exact blk_new _ (by simp) _ _); (case hs => exact HS.out.fr (M := fun _ => False) ((((Fr.refl _ w).alloc _).alloc _).alloc _) (fun _ _ => not_false)); (case hr => exact HR.out.fr (M := fun _ => False) ((((Fr.refl _ w).alloc _).alloc _).alloc _) (fun _ _ => not_false)); (case hF => exact fun g hg e => by have := HF.out g hg; omega); (case hV => exact HV.out.fr (M := fun _ => False) ((((Fr.refl _ w).alloc _).alloc _).alloc _) not_false); (case hg => have := lt_of_var gForms HV.out; omega); rintro x w2 ⟨rfl, hf⟩; have z0 : w2.cell? ⟨w.heap.size + 1, 0, none⟩ = some (.int .i64 0) := hf.cell ?za ?zb; (case za => simp [go_sem]); (case zb => (intro h; have h' : w.heap.size + 1 = w.heap.size + 1 + 1 := h; omega)); have y0 : w2.frozen? ⟨w.heap.size + 1, 0, none⟩ = false := frz hf ?za ?zb ?zc; (case za => simp [go_sem]); (case zb => simp); (case zc => (intro h; have h' : w.heap.size + 1 = w.heap.size + 1 + 1 := h; omega)); have z1 : w2.cell? ⟨w.heap.size + 1, 1, none⟩ = some (.int .i64 0) := hf.cell ?za ?zb; (case za => simp [go_sem]); (case zb => (intro h; have h' : w.heap.size + 1 = w.heap.size + 1 + 1 := h; omega)); have y1 : w2.frozen? ⟨w.heap.size + 1, 1, none⟩ = false := frz hf ?za ?zb ?zc; (case za => simp [go_sem]); (case zb => simp); (case zc => (intro h; have h' : w.heap.size + 1 = w.heap.size + 1 + 1 := h; omega)); have z2 : w2.cell? ⟨w.heap.size + 1, 2, none⟩ = some (.int .i64 0) := hf.cell ?za ?zb; (case za => simp [go_sem]); (case zb => (intro h; have h' : w.heap.size + 1 = w.heap.size + 1 + 1 := h; omega)); have y2 : w2.frozen? ⟨w.heap.size + 1, 2, none⟩ = false := frz hf ?za ?zb ?zc; (case za => simp [go_sem]); (case zb => simp); (case zc => (intro h; have h' : w.heap.size + 1 = w.heap.size + 1 + 1 := h; omega)); have HFF := Lib.hid hf; clear hf)
  refine leaves_cons (f := 74) (args := #[.pointer (some ⟨w.heap.size + 1, 0, none⟩)]) (by simp) (by simp [go_sem]) ?_
  refine (find1_idle ⟨w.heap.size + 1, 0, none⟩ _).mono ?_
  rintro e u' w'' ⟨rfl, rfl, rfl⟩
  simp [Leaves, settle, results, Tryd.results43, go_sem, *]
  have hW : Fr (fun b => w.heap.size ≤ b) w w2 := ((((Fr.refl _ w).alloc _).alloc _).alloc _).trans HFF.out (fun i hi => .inr (by have h' : i = w.heap.size + 1 + 1 := hi; omega))
  exact (((hW.setCell (p := ⟨w.heap.size + 1, 0, none⟩) (.inl (Nat.le_succ _)) _).setCell (p := ⟨w.heap.size + 1, 1, none⟩) (.inl (Nat.le_succ _)) _).setCell (p := ⟨w.heap.size + 1, 2, none⟩) (.inl (Nat.le_succ _)) _).below (fun b hb => hb) (Nat.le_refl _)
set_option maxRecDepth 100000 in
theorem check_ok (G : UnFine U) (hs : Row F w (.slice Av U.sizes.length cv) U.sizes.length 1 (numV U.sizes)) (hr : RdBlocks F w (.slice Ab U.blocks.length cb) U.blocks) (hF : ∀ g, F g → g < w.heap.size) (V : Env w) :
    Calls Tryd.prog 18 #[unV U Av cv Ab cb] w fun x w' => x = .returned (.int .i64 0) ∧ Below w.heap.size w w' := by
  have hfr : Fr (fun _ => False) w (w.alloc (.cells #[.slice Av U.sizes.length cv, .int .i64 U.params, .int .i64 U.regs, .int .i64 U.code, .int .i64 U.spill, .slice Ab U.blocks.length cb] 25)) := (Fr.refl _ w).alloc _
  have HK := Lib.hid (find_ok G (hs.fr hfr (fun _ _ => not_false)) (hr.fr hfr (fun _ _ => not_false)) (fun g hg => Nat.lt_of_lt_of_le (hF g hg) hfr.size) (V.fr hfr not_false))
  clear G hs hr hF V hfr
  have hfl := fun w : World => fault_e 0 0 0 w
  unfold unV at *
  go_enter Tryd.func18, Tryd.ntmps18
  go_wp2_with (go_at_call 43; refine HK.out.mono ?_; rintro x w2 ⟨rfl, hb⟩)
  go_ret
  exact ⟨rfl, ((Below.refl _ w).alloc (Nat.le_refl _) _).trans (hb.mono (by simp))⟩
end Go.Proofs.YtfkjkdoloamakaaDoor

/- What Copy of package code needs: a row of blocks of which some have been copied. -/
namespace Go.Proofs.YtfkjkdoloamakaaDoor
open Go.RowKit
set_option linter.unusedVariables false
set_option linter.unusedSimpArgs false
variable {w : World} {F : Nat → Prop}

theorem blsC_set : ∀ (vs : List Value) (bs : List BlkS) (i : Nat) (v : Value) (_ : vs.length = bs.length) (_ : i < bs.length) (j : Nat), (blsC (vs.set i v) bs)[j]? = if j = i * 6 then some v else (blsC vs bs)[j]?
  | [], [], i, _, _, h, _ => absurd h (by simp)
  | [], _ :: _, _, _, h, _, _ => by simp at h
  | _ :: _, [], _, _, h, _, _ => by simp at h
  | x :: vs, b :: r, 0, v, _, _, j => by
    cases j with
    | zero => simp [blsC]
    | succ j => simp [blsC]
  | x :: vs, b :: r, i + 1, v, h, hi, j => by
    simp only [List.set_cons_succ, blsC]
    have hl : (x :: edC b.ed ++ [Value.int .i64 b.ct]).length = 6 := by simp [edC]
    revert hl
    generalize (x :: edC b.ed ++ [Value.int .i64 b.ct]) = L
    intro hl
    by_cases hj : j < 6
    · rw [List.getElem?_append_left (by rw [hl]; exact hj), if_neg (by omega), List.getElem?_append_left (by rw [hl]; exact hj)]
    · rw [List.getElem?_append_right (by rw [hl]; omega), List.getElem?_append_right (by rw [hl]; omega), hl, blsC_set vs r i v (by simpa using h) (by simpa using hi)]
      by_cases e : j = (i + 1) * 6
      · rw [if_pos e, if_pos (by omega)]
      · rw [if_neg e, if_neg (by omega)]
theorem cell_put {w : World} {g i : Nat} {u v : Value} (h : w.cell? ⟨g, i, none⟩ = some u) : (w.setCell ⟨g, i, none⟩ v).cell? ⟨g, i, none⟩ = some v := by
  simp [go_sem, h]
theorem cell_off {w : World} {g i j : Nat} {v : Value} (h : i ≠ j) : (w.setCell ⟨g, i, none⟩ v).cell? ⟨g, j, none⟩ = w.cell? ⟨g, j, none⟩ := by
  simp [go_sem, h]
theorem Row.of_own {base : Nat} {e : TypeId} {size n : Nat} {v : Value} {xs : List Value} {N : Nat → Prop} (h : w.ownsRow base e size v n xs) (hN : ∀ b, base ≤ b → N b) (hs : 0 < size) : Row N w v n size xs := by
  rcases h.2 with ⟨h0, h1⟩ | ⟨g, cap, cur, rfl, hg, hc, h2, h3, _⟩
  · exact ⟨h.1, none, 0, by rw [h0, h1], by omega, by unfold maxLen; omega, fun hp => by omega⟩
  · refine ⟨h.1, some ⟨g, 0, none⟩, cap, rfl, h2, h3, fun hp => ⟨g, 0, rfl, hN g hg, ?_, fun j u hu => ?_⟩⟩
    · rcases Nat.lt_or_ge g w.heap.size with h' | h'
      · exact h'
      · rw [Array.getElem?_eq_none h'] at hc; cases hc
    · rw [Nat.zero_add]
      have hj : j < xs.length := (List.getElem?_eq_some_iff.mp hu).1
      have := h.cellAt j (by rw [← h.1]; exact hj)
      rw [this, ← hu]
/-- some of the blocks have been copied -/
def Half (F N : Nat → Prop) (w : World) (g c k : Nat) (bs : List BlkS) : Prop :=
  ∃ vs : List Value, vs.length = bs.length ∧ Row (fun b => b = g) w (.slice (some ⟨g, 0, none⟩) bs.length c) bs.length 6 (blsC vs bs) ∧ ∀ i (h : i < bs.length), Row (fun b => if i < k then N b else F b) w (vs.getD i .nilFunc) (bs[i]).ops.length 7 (opsC (bs[i]).ops)
variable {N M : Nat → Prop} {w' : World} {g c k : Nat} {bs : List BlkS}
theorem Half.done (h : Half F N w g c bs.length bs) : RdBlocks (fun b => b = g ∨ N b) w (.slice (some ⟨g, 0, none⟩) bs.length c) bs := by
  obtain ⟨vs, h1, h2, h3⟩ := h
  exact ⟨vs, h1, h2.mono fun b hb _ => .inl hb, fun i hi => (h3 i hi).mono fun b hb _ => by rw [if_pos hi] at hb; exact .inr hb⟩
theorem Half.start {vs : List Value} (h1 : vs.length = bs.length) (h2 : Row (fun b => b = g) w (.slice (some ⟨g, 0, none⟩) bs.length c) bs.length 6 (blsC vs bs)) (h3 : ∀ i (h : i < bs.length), Row F w (vs.getD i .nilFunc) (bs[i]).ops.length 7 (opsC (bs[i]).ops)) : Half F N w g c 0 bs :=
  ⟨vs, h1, h2, fun i hi => (h3 i hi).mono fun b hb _ => by rw [if_neg (by omega)]; exact hb⟩
theorem Half.fr (h : Half F N w g c k bs) (hf : Fr M w w') (hF : ∀ b, F b → ¬ M b) (hN : ∀ b, N b → ¬ M b) (hg : ¬ M g) : Half F N w' g c k bs := by
  obtain ⟨vs, h1, h2, h3⟩ := h
  exact ⟨vs, h1, h2.fr hf (fun b hb => hb ▸ hg), fun i hi => (h3 i hi).fr hf fun b hb => by
    by_cases hik : i < k
    · rw [if_pos hik] at hb; exact hN b hb
    · rw [if_neg hik] at hb; exact hF b hb⟩
/-- the slice that is copied next -/
theorem Half.at_ (h : Half F N w g c k bs) (hk : k < bs.length) :
    ∃ v, w.cell? ⟨g, k * 6, none⟩ = some v ∧ Row F w v (bs[k]).ops.length 7 (opsC (bs[k]).ops) := by
  obtain ⟨vs, h1, ⟨_, A, c', e, _, _, hh⟩, h3⟩ := h
  obtain ⟨g1, o1, e1, _, _, hc⟩ := hh (by omega)
  rw [e1] at e
  injection e with e2
  injection e2 with e2
  injection e2 with e2 e3
  subst e2
  refine ⟨vs.getD k .nilFunc, ?_, (h3 k hk).mono fun b hb _ => by rw [if_neg (Nat.lt_irrefl _)] at hb; exact hb⟩
  have := hc (k * 6 + 0) _ ((blsC_at vs bs h1 k hk 0 (by omega)).trans rfl)
  rw [← e3] at this
  simpa using this
/-- one more is copied: its new slice is laid -/
theorem Half.next {v : Value} (h : Half F N w g c k bs) (hk : k < bs.length) (hv : Row N w v (bs[k]).ops.length 7 (opsC (bs[k]).ops)) (hN : ¬ N g) (hF : ¬ F g) : Half F N (w.setCell ⟨g, k * 6, none⟩ v) g c (k + 1) bs := by
  obtain ⟨vs, h1, ⟨h0, A, c', e, hc1, hc2, hh⟩, h3⟩ := h
  have hfr : Fr (fun b => b = g) w (w.setCell ⟨g, k * 6, none⟩ v) := Fr.one w g (k * 6) v
  obtain ⟨g1, o1, e1, eg, hlt, hc⟩ := hh (by omega)
  rw [e1] at e
  injection e with e2 _ e4
  injection e2 with e2
  injection e2 with e2 e3
  subst e2 e4
  subst e3
  refine ⟨vs.set k v, by simpa using h1, ⟨by rw [blsC_length _ _ (by simpa using h1)], _, _, rfl, hc1, hc2, fun _ => ⟨g, 0, rfl, rfl, by simpa using hlt, fun j u hu => ?_⟩⟩, fun i hi => ?_⟩
  · rw [blsC_set vs bs k v h1 hk j] at hu
    rw [Nat.zero_add]
    by_cases hj : j = k * 6
    · rw [if_pos hj] at hu
      subst hj
      have h6 := hc (k * 6 + 0) _ ((blsC_at vs bs h1 k hk 0 (by omega)).trans rfl)
      simp only [Nat.zero_add, Nat.add_zero] at h6
      rw [← hu]
      exact cell_put h6
    · rw [if_neg hj] at hu
      have h6 := hc j u hu
      rw [Nat.zero_add] at h6
      exact (cell_off (by omega)).trans h6
  · by_cases hik : i = k
    · subst hik
      rw [List.getD_eq_getElem?_getD, List.getElem?_set_self (by rw [h1]; exact hi), Option.getD_some]
      exact (hv.fr hfr fun b hb e => hN (e ▸ hb)).mono fun b hb _ => by rw [if_pos (Nat.lt_succ_self _)]; exact hb
    · rw [List.getD_eq_getElem?_getD, List.getElem?_set_ne (fun e => hik e.symm), ← List.getD_eq_getElem?_getD]
      refine ((h3 i hi).fr hfr fun b hb e => ?_).mono fun b hb _ => ?_
      · have e' : b = g := e
        subst e'
        by_cases h' : i < k
        · rw [if_pos h'] at hb; exact hN hb
        · rw [if_neg h'] at hb; exact hF hb
      · by_cases h' : i < k
        · rw [if_pos h'] at hb; rw [if_pos (by omega)]; exact hb
        · rw [if_neg h'] at hb; rw [if_neg (by omega)]; exact hb
end Go.Proofs.YtfkjkdoloamakaaDoor

/- What slices.Clone leaves, at each of the seven types: a row of its own with the same cells. -/
namespace Go.Proofs.YtfkjkdoloamakaaDoor
open Go.RowKit
set_option linter.unusedVariables false
set_option linter.unusedSimpArgs false
variable {w : World}

theorem inf_val : (Tryd.prog.info? 85).map (fun i => (i.zero, i.size, i.bytes)) = some (some (.agg #[.int .i64 0, .int .i64 0]), 2, 16) := by kernel_rfl
set_option maxRecDepth 100000 in
set_option maxHeartbeats 2000000 in
theorem clone_val (A : Option Addr) (n c : Nat) (news : List Value) (w : World) (hnil : A = none → n = 0) (hl : news.length = n * 2) (hn : n ≤ maxLen) (hbig : n * 16 ≤ 140737488355328)
    (hc : ∀ ad, A = some ad → ∀ j u, news[j]? = some u → w.cell? (ad.add j) = some u) (h1 : ∀ u ∈ news, u.oneCell' = true) :
    Calls Tryd.prog 63 #[.slice A n c] w fun e w' => ∃ v', e = .returned v' ∧ w'.ownsRow w.heap.size 85 2 v' n news ∧ Below w.heap.size w w' := by
  have q22 : ∀ (w : World) (a : Option Addr) (n c n' c' : Nat), (binOp .eql 63 (.slice a n c) (.slice none n' c')).run Tryd.prog w = .ok (.bool a.isNone) w := fun w a n c n' c' => Lib.run_eql_slice_nil w _ _ a n c n' c' Tryd.underlying63
  cases A with
  | none =>
    have h0 := hnil rfl
    subst h0
    obtain rfl : news = [] := List.eq_nil_of_length_eq_zero (by simpa using hl)
    clear hc h1 hnil hl hn hbig
    go_enter Tryd.func63, Tryd.ntmps63
    go_wp2
    go_ret
    exact ⟨_, rfl, World.ownsRow_nil _ _ _ _, Below.refl _ _⟩
  | some ad =>
    have HC := Lib.hid (hc ad rfl)
    clear hc hnil
    obtain ⟨i0, hi, hz0, hz1, hz2⟩ := info_parts inf_val
    go_enter Tryd.func63, Tryd.ntmps63
    go_wp2_with (at_builtin; refine wpList_append_own _ rfl _ _ 63 rfl w.heap.size 85 i0 (.agg #[.int .i64 0, .int .i64 0]) 2 16 Tryd.underlying63 hi hz0 hz1 hz2 rfl (by decide) _ _ _ rfl (World.ownsRow_made w #[] 0 (Nat.le_refl _) (Nat.zero_le _) (by simp)) ad n c news rfl ?qc1 ?qc2 ?qc3 ?qc4 ?qc5 ?qc6 ?_)
    case qc1 => exact hl
    case qc2 =>
      intro j u hj
      exact Lib.cell?_alloc_some _ (HC.out j u hj)
    case qc3 => exact h1
    case qc4 => rw [Nat.zero_add]; exact hn
    case qc5 => rw [Nat.zero_add]; exact hbig
    case qc6 => simp
    intro v' w1 hown hgrow hnil
    go_wp2
    go_ret
    refine ⟨v', rfl, by simpa using hown, ?_⟩
    exact ((Below.refl _ w).alloc (Nat.le_refl _) _).grown hgrow (by simp) (by intro k hk; simp [Value.ownBlock] at hk; omega)

theorem inf_i64 : (Tryd.prog.info? 2).map (fun i => (i.zero, i.size, i.bytes)) = some (some (.int .i64 0), 1, 8) := by kernel_rfl
set_option maxRecDepth 100000 in
set_option maxHeartbeats 2000000 in
theorem clone_i64 (A : Option Addr) (n c : Nat) (news : List Value) (w : World) (hnil : A = none → n = 0) (hl : news.length = n * 1) (hn : n ≤ maxLen) (hbig : n * 8 ≤ 140737488355328)
    (hc : ∀ ad, A = some ad → ∀ j u, news[j]? = some u → w.cell? (ad.add j) = some u) (h1 : ∀ u ∈ news, u.oneCell' = true) :
    Calls Tryd.prog 64 #[.slice A n c] w fun e w' => ∃ v', e = .returned v' ∧ w'.ownsRow w.heap.size 2 1 v' n news ∧ Below w.heap.size w w' := by
  have q22 : ∀ (w : World) (a : Option Addr) (n c n' c' : Nat), (binOp .eql 26 (.slice a n c) (.slice none n' c')).run Tryd.prog w = .ok (.bool a.isNone) w := fun w a n c n' c' => Lib.run_eql_slice_nil w _ _ a n c n' c' Tryd.underlying26
  cases A with
  | none =>
    have h0 := hnil rfl
    subst h0
    obtain rfl : news = [] := List.eq_nil_of_length_eq_zero (by simpa using hl)
    clear hc h1 hnil hl hn hbig
    go_enter Tryd.func64, Tryd.ntmps64
    go_wp2
    go_ret
    exact ⟨_, rfl, World.ownsRow_nil _ _ _ _, Below.refl _ _⟩
  | some ad =>
    have HC := Lib.hid (hc ad rfl)
    clear hc hnil
    obtain ⟨i0, hi, hz0, hz1, hz2⟩ := info_parts inf_i64
    go_enter Tryd.func64, Tryd.ntmps64
    go_wp2_with (at_builtin; refine wpList_append_own _ rfl _ _ 26 rfl w.heap.size 2 i0 (.int .i64 0) 1 8 Tryd.underlying26 hi hz0 hz1 hz2 rfl (by decide) _ _ _ rfl (World.ownsRow_made w #[] 0 (Nat.le_refl _) (Nat.zero_le _) (by simp)) ad n c news rfl ?qc1 ?qc2 ?qc3 ?qc4 ?qc5 ?qc6 ?_)
    case qc1 => exact hl
    case qc2 =>
      intro j u hj
      exact Lib.cell?_alloc_some _ (HC.out j u hj)
    case qc3 => exact h1
    case qc4 => rw [Nat.zero_add]; exact hn
    case qc5 => rw [Nat.zero_add]; exact hbig
    case qc6 => simp
    intro v' w1 hown hgrow hnil
    go_wp2
    go_ret
    refine ⟨v', rfl, by simpa using hown, ?_⟩
    exact ((Below.refl _ w).alloc (Nat.le_refl _) _).grown hgrow (by simp) (by intro k hk; simp [Value.ownBlock] at hk; omega)

theorem inf_arr : (Tryd.prog.info? 26).map (fun i => (i.zero, i.size, i.bytes)) = some (some (.slice none 0 0), 1, 24) := by kernel_rfl
set_option maxRecDepth 100000 in
set_option maxHeartbeats 2000000 in
theorem clone_arr (A : Option Addr) (n c : Nat) (news : List Value) (w : World) (hnil : A = none → n = 0) (hl : news.length = n * 1) (hn : n ≤ maxLen) (hbig : n * 24 ≤ 140737488355328)
    (hc : ∀ ad, A = some ad → ∀ j u, news[j]? = some u → w.cell? (ad.add j) = some u) (h1 : ∀ u ∈ news, u.oneCell' = true) :
    Calls Tryd.prog 65 #[.slice A n c] w fun e w' => ∃ v', e = .returned v' ∧ w'.ownsRow w.heap.size 26 1 v' n news ∧ Below w.heap.size w w' := by
  have q22 : ∀ (w : World) (a : Option Addr) (n c n' c' : Nat), (binOp .eql 64 (.slice a n c) (.slice none n' c')).run Tryd.prog w = .ok (.bool a.isNone) w := fun w a n c n' c' => Lib.run_eql_slice_nil w _ _ a n c n' c' Tryd.underlying64
  cases A with
  | none =>
    have h0 := hnil rfl
    subst h0
    obtain rfl : news = [] := List.eq_nil_of_length_eq_zero (by simpa using hl)
    clear hc h1 hnil hl hn hbig
    go_enter Tryd.func65, Tryd.ntmps65
    go_wp2
    go_ret
    exact ⟨_, rfl, World.ownsRow_nil _ _ _ _, Below.refl _ _⟩
  | some ad =>
    have HC := Lib.hid (hc ad rfl)
    clear hc hnil
    obtain ⟨i0, hi, hz0, hz1, hz2⟩ := info_parts inf_arr
    go_enter Tryd.func65, Tryd.ntmps65
    go_wp2_with (at_builtin; refine wpList_append_own _ rfl _ _ 64 rfl w.heap.size 26 i0 (.slice none 0 0) 1 24 Tryd.underlying64 hi hz0 hz1 hz2 rfl (by decide) _ _ _ rfl (World.ownsRow_made w #[] 0 (Nat.le_refl _) (Nat.zero_le _) (by simp)) ad n c news rfl ?qc1 ?qc2 ?qc3 ?qc4 ?qc5 ?qc6 ?_)
    case qc1 => exact hl
    case qc2 =>
      intro j u hj
      exact Lib.cell?_alloc_some _ (HC.out j u hj)
    case qc3 => exact h1
    case qc4 => rw [Nat.zero_add]; exact hn
    case qc5 => rw [Nat.zero_add]; exact hbig
    case qc6 => simp
    intro v' w1 hown hgrow hnil
    go_wp2
    go_ret
    refine ⟨v', rfl, by simpa using hown, ?_⟩
    exact ((Below.refl _ w).alloc (Nat.le_refl _) _).grown hgrow (by simp) (by intro k hk; simp [Value.ownBlock] at hk; omega)

theorem inf_int : (Tryd.prog.info? 3).map (fun i => (i.zero, i.size, i.bytes)) = some (some (.int .i64 0), 1, 8) := by kernel_rfl
set_option maxRecDepth 100000 in
set_option maxHeartbeats 2000000 in
theorem clone_int (A : Option Addr) (n c : Nat) (news : List Value) (w : World) (hnil : A = none → n = 0) (hl : news.length = n * 1) (hn : n ≤ maxLen) (hbig : n * 8 ≤ 140737488355328)
    (hc : ∀ ad, A = some ad → ∀ j u, news[j]? = some u → w.cell? (ad.add j) = some u) (h1 : ∀ u ∈ news, u.oneCell' = true) :
    Calls Tryd.prog 66 #[.slice A n c] w fun e w' => ∃ v', e = .returned v' ∧ w'.ownsRow w.heap.size 3 1 v' n news ∧ Below w.heap.size w w' := by
  have q22 : ∀ (w : World) (a : Option Addr) (n c n' c' : Nat), (binOp .eql 22 (.slice a n c) (.slice none n' c')).run Tryd.prog w = .ok (.bool a.isNone) w := fun w a n c n' c' => Lib.run_eql_slice_nil w _ _ a n c n' c' Tryd.underlying22
  cases A with
  | none =>
    have h0 := hnil rfl
    subst h0
    obtain rfl : news = [] := List.eq_nil_of_length_eq_zero (by simpa using hl)
    clear hc h1 hnil hl hn hbig
    go_enter Tryd.func66, Tryd.ntmps66
    go_wp2
    go_ret
    exact ⟨_, rfl, World.ownsRow_nil _ _ _ _, Below.refl _ _⟩
  | some ad =>
    have HC := Lib.hid (hc ad rfl)
    clear hc hnil
    obtain ⟨i0, hi, hz0, hz1, hz2⟩ := info_parts inf_int
    go_enter Tryd.func66, Tryd.ntmps66
    go_wp2_with (at_builtin; refine wpList_append_own _ rfl _ _ 22 rfl w.heap.size 3 i0 (.int .i64 0) 1 8 Tryd.underlying22 hi hz0 hz1 hz2 rfl (by decide) _ _ _ rfl (World.ownsRow_made w #[] 0 (Nat.le_refl _) (Nat.zero_le _) (by simp)) ad n c news rfl ?qc1 ?qc2 ?qc3 ?qc4 ?qc5 ?qc6 ?_)
    case qc1 => exact hl
    case qc2 =>
      intro j u hj
      exact Lib.cell?_alloc_some _ (HC.out j u hj)
    case qc3 => exact h1
    case qc4 => rw [Nat.zero_add]; exact hn
    case qc5 => rw [Nat.zero_add]; exact hbig
    case qc6 => simp
    intro v' w1 hown hgrow hnil
    go_wp2
    go_ret
    refine ⟨v', rfl, by simpa using hown, ?_⟩
    exact ((Below.refl _ w).alloc (Nat.le_refl _) _).grown hgrow (by simp) (by intro k hk; simp [Value.ownBlock] at hk; omega)

theorem inf_cnt : (Tryd.prog.info? 68).map (fun i => (i.zero, i.size, i.bytes)) = some (some (.agg #[.int .i64 0, .int .i64 0, .int .i64 0]), 3, 24) := by kernel_rfl
set_option maxRecDepth 100000 in
set_option maxHeartbeats 2000000 in
theorem clone_cnt (A : Option Addr) (n c : Nat) (news : List Value) (w : World) (hnil : A = none → n = 0) (hl : news.length = n * 3) (hn : n ≤ maxLen) (hbig : n * 24 ≤ 140737488355328)
    (hc : ∀ ad, A = some ad → ∀ j u, news[j]? = some u → w.cell? (ad.add j) = some u) (h1 : ∀ u ∈ news, u.oneCell' = true) :
    Calls Tryd.prog 67 #[.slice A n c] w fun e w' => ∃ v', e = .returned v' ∧ w'.ownsRow w.heap.size 68 3 v' n news ∧ Below w.heap.size w w' := by
  have q22 : ∀ (w : World) (a : Option Addr) (n c n' c' : Nat), (binOp .eql 55 (.slice a n c) (.slice none n' c')).run Tryd.prog w = .ok (.bool a.isNone) w := fun w a n c n' c' => Lib.run_eql_slice_nil w _ _ a n c n' c' Tryd.underlying55
  cases A with
  | none =>
    have h0 := hnil rfl
    subst h0
    obtain rfl : news = [] := List.eq_nil_of_length_eq_zero (by simpa using hl)
    clear hc h1 hnil hl hn hbig
    go_enter Tryd.func67, Tryd.ntmps67
    go_wp2
    go_ret
    exact ⟨_, rfl, World.ownsRow_nil _ _ _ _, Below.refl _ _⟩
  | some ad =>
    have HC := Lib.hid (hc ad rfl)
    clear hc hnil
    obtain ⟨i0, hi, hz0, hz1, hz2⟩ := info_parts inf_cnt
    go_enter Tryd.func67, Tryd.ntmps67
    go_wp2_with (at_builtin; refine wpList_append_own _ rfl _ _ 55 rfl w.heap.size 68 i0 (.agg #[.int .i64 0, .int .i64 0, .int .i64 0]) 3 24 Tryd.underlying55 hi hz0 hz1 hz2 rfl (by decide) _ _ _ rfl (World.ownsRow_made w #[] 0 (Nat.le_refl _) (Nat.zero_le _) (by simp)) ad n c news rfl ?qc1 ?qc2 ?qc3 ?qc4 ?qc5 ?qc6 ?_)
    case qc1 => exact hl
    case qc2 =>
      intro j u hj
      exact Lib.cell?_alloc_some _ (HC.out j u hj)
    case qc3 => exact h1
    case qc4 => rw [Nat.zero_add]; exact hn
    case qc5 => rw [Nat.zero_add]; exact hbig
    case qc6 => simp
    intro v' w1 hown hgrow hnil
    go_wp2
    go_ret
    refine ⟨v', rfl, by simpa using hown, ?_⟩
    exact ((Below.refl _ w).alloc (Nat.le_refl _) _).grown hgrow (by simp) (by intro k hk; simp [Value.ownBlock] at hk; omega)

theorem inf_blk : (Tryd.prog.info? 73).map (fun i => (i.zero, i.size, i.bytes)) = some (some (.agg #[.slice none 0 0, .int .i64 0, .int .i64 0, .int .i64 0, .int .i64 0, .int .i64 0]), 6, 64) := by kernel_rfl
set_option maxRecDepth 100000 in
set_option maxHeartbeats 2000000 in
theorem clone_blk (A : Option Addr) (n c : Nat) (news : List Value) (w : World) (hnil : A = none → n = 0) (hl : news.length = n * 6) (hn : n ≤ maxLen) (hbig : n * 64 ≤ 140737488355328)
    (hc : ∀ ad, A = some ad → ∀ j u, news[j]? = some u → w.cell? (ad.add j) = some u) (h1 : ∀ u ∈ news, u.oneCell' = true) :
    Calls Tryd.prog 113 #[.slice A n c] w fun e w' => ∃ v', e = .returned v' ∧ w'.ownsRow w.heap.size 73 6 v' n news ∧ Below w.heap.size w w' := by
  have q22 : ∀ (w : World) (a : Option Addr) (n c n' c' : Nat), (binOp .eql 23 (.slice a n c) (.slice none n' c')).run Tryd.prog w = .ok (.bool a.isNone) w := fun w a n c n' c' => Lib.run_eql_slice_nil w _ _ a n c n' c' Tryd.underlying23
  cases A with
  | none =>
    have h0 := hnil rfl
    subst h0
    obtain rfl : news = [] := List.eq_nil_of_length_eq_zero (by simpa using hl)
    clear hc h1 hnil hl hn hbig
    go_enter Tryd.func113, Tryd.ntmps113
    go_wp2
    go_ret
    exact ⟨_, rfl, World.ownsRow_nil _ _ _ _, Below.refl _ _⟩
  | some ad =>
    have HC := Lib.hid (hc ad rfl)
    clear hc hnil
    obtain ⟨i0, hi, hz0, hz1, hz2⟩ := info_parts inf_blk
    go_enter Tryd.func113, Tryd.ntmps113
    go_wp2_with (at_builtin; refine wpList_append_own _ rfl _ _ 23 rfl w.heap.size 73 i0 (.agg #[.slice none 0 0, .int .i64 0, .int .i64 0, .int .i64 0, .int .i64 0, .int .i64 0]) 6 64 Tryd.underlying23 hi hz0 hz1 hz2 rfl (by decide) _ _ _ rfl (World.ownsRow_made w #[] 0 (Nat.le_refl _) (Nat.zero_le _) (by simp)) ad n c news rfl ?qc1 ?qc2 ?qc3 ?qc4 ?qc5 ?qc6 ?_)
    case qc1 => exact hl
    case qc2 =>
      intro j u hj
      exact Lib.cell?_alloc_some _ (HC.out j u hj)
    case qc3 => exact h1
    case qc4 => rw [Nat.zero_add]; exact hn
    case qc5 => rw [Nat.zero_add]; exact hbig
    case qc6 => simp
    intro v' w1 hown hgrow hnil
    go_wp2
    go_ret
    refine ⟨v', rfl, by simpa using hown, ?_⟩
    exact ((Below.refl _ w).alloc (Nat.le_refl _) _).grown hgrow (by simp) (by intro k hk; simp [Value.ownBlock] at hk; omega)

theorem inf_op : (Tryd.prog.info? 76).map (fun i => (i.zero, i.size, i.bytes)) = some (some (.agg #[.int .i64 0, .int .i64 0, .int .i64 0, .int .i64 0, .int .i64 0, .int .i64 0, .int .i64 0]), 7, 56) := by kernel_rfl
set_option maxRecDepth 100000 in
set_option maxHeartbeats 2000000 in
theorem clone_op (A : Option Addr) (n c : Nat) (news : List Value) (w : World) (hnil : A = none → n = 0) (hl : news.length = n * 7) (hn : n ≤ maxLen) (hbig : n * 56 ≤ 140737488355328)
    (hc : ∀ ad, A = some ad → ∀ j u, news[j]? = some u → w.cell? (ad.add j) = some u) (h1 : ∀ u ∈ news, u.oneCell' = true) :
    Calls Tryd.prog 114 #[.slice A n c] w fun e w' => ∃ v', e = .returned v' ∧ w'.ownsRow w.heap.size 76 7 v' n news ∧ Below w.heap.size w w' := by
  have q22 : ∀ (w : World) (a : Option Addr) (n c n' c' : Nat), (binOp .eql 69 (.slice a n c) (.slice none n' c')).run Tryd.prog w = .ok (.bool a.isNone) w := fun w a n c n' c' => Lib.run_eql_slice_nil w _ _ a n c n' c' Tryd.underlying69
  cases A with
  | none =>
    have h0 := hnil rfl
    subst h0
    obtain rfl : news = [] := List.eq_nil_of_length_eq_zero (by simpa using hl)
    clear hc h1 hnil hl hn hbig
    go_enter Tryd.func114, Tryd.ntmps114
    go_wp2
    go_ret
    exact ⟨_, rfl, World.ownsRow_nil _ _ _ _, Below.refl _ _⟩
  | some ad =>
    have HC := Lib.hid (hc ad rfl)
    clear hc hnil
    obtain ⟨i0, hi, hz0, hz1, hz2⟩ := info_parts inf_op
    go_enter Tryd.func114, Tryd.ntmps114
    go_wp2_with (at_builtin; refine wpList_append_own _ rfl _ _ 69 rfl w.heap.size 76 i0 (.agg #[.int .i64 0, .int .i64 0, .int .i64 0, .int .i64 0, .int .i64 0, .int .i64 0, .int .i64 0]) 7 56 Tryd.underlying69 hi hz0 hz1 hz2 rfl (by decide) _ _ _ rfl (World.ownsRow_made w #[] 0 (Nat.le_refl _) (Nat.zero_le _) (by simp)) ad n c news rfl ?qc1 ?qc2 ?qc3 ?qc4 ?qc5 ?qc6 ?_)
    case qc1 => exact hl
    case qc2 =>
      intro j u hj
      exact Lib.cell?_alloc_some _ (HC.out j u hj)
    case qc3 => exact h1
    case qc4 => rw [Nat.zero_add]; exact hn
    case qc5 => rw [Nat.zero_add]; exact hbig
    case qc6 => simp
    intro v' w1 hown hgrow hnil
    go_wp2
    go_ret
    refine ⟨v', rfl, by simpa using hown, ?_⟩
    exact ((Below.refl _ w).alloc (Nat.le_refl _) _).grown hgrow (by simp) (by intro k hk; simp [Value.ownBlock] at hk; omega)

end Go.Proofs.YtfkjkdoloamakaaDoor

/- What Run, outcome, ok of an Engine of package run leave. -/
namespace Go.Proofs.YtfkjkdoloamakaaDoor
open Go.RowKit
set_option linter.unusedVariables false
set_option linter.unusedSimpArgs false
variable {F : Nat → Prop} {w0 w : World} {M0 : Nat → Prop} {p : Nat} {U : UnS} {s : St}

theorem step_any (S : StGood U s) (G : UnGood U) (E : EngX layP F w0 M0 w p U s) (V : Env w0) (hM : ¬ M0 0) (hs : s.steps < 1000000000000) :
    Calls Tryd.prog 52 #[.pointer (some ⟨p, 0, none⟩)] w fun e w' => e = .returned (.tuple #[]) ∧ EngX layP F w0 M0 w' p U (s.step U) := by
  have := S.pc
  by_cases he : s.pc = (U.blocks.getD s.bl dBl).ops.length
  · exact step_leave S G E hs he
  · exact step_do S G E V hM hs (by omega)

theorem own_read {base : Nat} {e : TypeId} {size n : Nat} {v : Value} {xs : List Value} (h : w.ownsRow base e size v n xs) : ∃ A c, v = .slice A n c ∧ (A = none → n = 0) ∧ ∀ ad, A = some ad → ∀ j u, xs[j]? = some u → w.cell? (ad.add j) = some u := by
  rcases h.2 with ⟨h0, h1⟩ | ⟨g, cap, cur, rfl, _⟩
  · exact ⟨none, 0, by rw [h0, h1], fun _ => h1, fun ad e => nomatch e⟩
  · refine ⟨some ⟨g, 0, none⟩, cap, rfl, (fun e => nomatch e), fun ad e j u hu => ?_⟩
    injection e with e
    subst e
    have hj : j < xs.length := (List.getElem?_eq_some_iff.mp hu).1
    have := h.cellAt j (by rw [← h.1]; exact hj)
    rw [show (⟨g, 0, none⟩ : Addr).add j = ⟨g, j, none⟩ by simp [Addr.add]; exact fun h => h.symm]
    rw [this, ← hu]
theorem num_one {l : List Int} : ∀ u ∈ numV l, u.oneCell' = true := by
  intro u hu
  simp only [numV, List.mem_map] at hu
  obtain ⟨x, _, rfl⟩ := hu
  rfl
theorem clone_nums {base : Nat} {v : Value} {l : List Int} (h : w.ownsRow base 2 1 v l.length (numV l)) (hn : l.length ≤ 10000000000000) :
    Calls Tryd.prog 64 #[v] w fun e w' => ∃ v', e = .returned v' ∧ w'.ownsRow w.heap.size 2 1 v' l.length (numV l) ∧ Below w.heap.size w w' := by
  obtain ⟨A, c, rfl, h0, h1⟩ := own_read h
  exact clone_i64 A l.length c (numV l) w h0 (by simp [numV]) (by unfold maxLen; omega) (by omega) h1 num_one

theorem ok_any (G : UnGood U) (S : StGood U s) (E : EngX layP F w0 M0 w p U s) :
    Calls Tryd.prog 51 #[.pointer (some ⟨p, 0, none⟩)] w fun e w' => e = .returned (.bool true) ∧ w' = w := by
  obtain ⟨L, Q⟩ := E
  obtain ⟨g, o, c, A, nn, cc, eb, _⟩ := code_at Q.e.code s.bl S.bl
  have h5 := P5 Q.e
  rw [eb] at h5
  have hnb := G.nb
  have hmb := G.mb
  clear Q eb
  go_enter Tryd.func51, Tryd.ntmps51
  go_wp2
  go_ret
  exact ⟨rfl, rfl⟩

theorem own_le {base base' : Nat} {e : TypeId} {size : Nat} {v : Value} {n : Nat} {xs : List Value} (hb : base' ≤ base) (h : w.ownsRow base e size v n xs) : w.ownsRow base' e size v n xs := ⟨h.1, h.2.imp id fun ⟨g, cap, cur, e1, e2, r⟩ => ⟨g, cap, cur, e1, Nat.le_trans hb e2, r⟩⟩
theorem own_setb {base : Nat} {e : TypeId} {size : Nat} {v : Value} {n : Nat} {xs : List Value} {a : Addr} (ha : a.block < base) (u : Value) (h : w.ownsRow base e size v n xs) : (w.setCell a u).ownsRow base e size v n xs := own_far h (fun hk => by
    obtain ⟨h0, _⟩ | ⟨g, cap, cur, rfl, hg, _⟩ := h.2
    · rw [h0] at hk; cases hk
    · injection hk with hk; simp only at hk; omega) u
/-- the kind of an Outcome -/
def kindO (k : Int) : Int := if k = 0 then 3 else k
set_option maxRecDepth 100000 in
theorem outcome_any (S : StGood U s) (E : EngX layP F w0 M0 w p U s) :
    Calls Tryd.prog 40 #[.pointer (some ⟨p, 0, none⟩)] w fun e w' => ∃ v, e = .returned (.agg #[v, .int .i64 (kindO s.kind), .int .i64 s.val]) ∧ w'.ownsRow w.heap.size 2 1 v s.prints.length (numV s.prints) ∧ Below w.heap.size w w' := by
  obtain ⟨L, Q⟩ := E
  have h9 := P9 Q.e
  have h13 := P13 Q.e
  have h14 := P14 Q.e
  have hpl : s.prints.length ≤ 10000000000000 := by have := S.pr; have := S.st1; omega
  have lp : p < w.heap.size := Q.e.blk.lt
  have np : p ≠ w.heap.size := by omega
  have np' := np.symm
  obtain ⟨A, c, hv, _⟩ := own_read Q.e.prints
  have hown := Q.e.prints
  rw [hv] at h9 hown
  have HO := Lib.hid hown
  have HQ := Lib.hid Q
  clear hown Q hv S
  by_cases hk : s.kind = 0
  · rw [hk] at h13
    have HK := Lib.hid (show kindO s.kind = 3 by simp [kindO, hk])
    clear hk
    go_enter Tryd.func40, Tryd.ntmps40
    go_wp2
    go_region_held3 (fun w' => w'.cell? ⟨p, 9, none⟩ = some (.slice A s.prints.length c) ∧ w'.cell? ⟨p, 14, none⟩ = some (.int .i64 s.val)) (first | exact ⟨k0, k1⟩ | (go_keep; done) | trace_state)
      (first | (obtain ⟨s0, s1⟩ := ‹_ ∧ _›; go_at_call 64; refine (clone_nums (own_fr HO.out (Fr.of_below (M := fun _ => False) ?za) ?zb) hpl).mono ?_; (case za => go_grown); (case zb => exact fun _ _ => not_false); rintro e w1 ⟨v, rfl, hv, hb⟩; obtain ⟨A1, c1, rfl⟩ := own_shape hv; have k0 := hb.cell (p := ⟨p, 9, none⟩) ?zc; (case zc => simp; omega); rw [s0] at k0; have k1 := hb.cell (p := ⟨p, 14, none⟩) ?zc; (case zc => simp; omega); rw [s1] at k1; have z0 : w1.cell? ⟨w.heap.size, 0, none⟩ = some (.slice none 0 0) := (hb.cell (p := ⟨w.heap.size, 0, none⟩) ?za).trans ?zb; (case za => simp); (case zb => simp [go_sem]); have y0 : w1.frozen? ⟨w.heap.size, 0, none⟩ = false := (hb.frozen (p := ⟨w.heap.size, 0, none⟩) ?za).trans ?zb; (case za => simp); (case zb => simp [go_sem]); have z1 : w1.cell? ⟨w.heap.size, 1, none⟩ = some (.int .i64 0) := (hb.cell (p := ⟨w.heap.size, 1, none⟩) ?za).trans ?zb; (case za => simp); (case zb => simp [go_sem]); have y1 : w1.frozen? ⟨w.heap.size, 1, none⟩ = false := (hb.frozen (p := ⟨w.heap.size, 1, none⟩) ?za).trans ?zb; (case za => simp); (case zb => simp [go_sem]); have z2 : w1.cell? ⟨w.heap.size, 2, none⟩ = some (.int .i64 0) := (hb.cell (p := ⟨w.heap.size, 2, none⟩) ?za).trans ?zb; (case za => simp); (case zb => simp [go_sem]); have y2 : w1.frozen? ⟨w.heap.size, 2, none⟩ = false := (hb.frozen (p := ⟨w.heap.size, 2, none⟩) ?za).trans ?zb; (case za => simp); (case zb => simp [go_sem]); clear s0 s1))
    go_wp2
    refine bodyPost_ret (v := .agg #[.slice A1 s.prints.length c1, .int .i64 3, .int .i64 s.val]) (by simp [results, Tryd.results40, go_sem, *]) rfl ⟨_, by rw [HK.out], ?_, ?_⟩
    · exact own_le (Nat.le_succ _) (own_setb (Nat.lt_succ_self _) _ (own_setb (Nat.lt_succ_self _) _ (own_setb (Nat.lt_succ_self _) _ (own_le (by simp) hv))))
    · exact ((((Below.refl _ w).alloc (Nat.le_refl _) _).drew.trans (hb.mono (B' := w.heap.size) (by simp))).setCell (Nat.le_refl _) _).setCell (Nat.le_refl _) _ |>.setCell (Nat.le_refl _) _
  · have hk' : (s.kind == 0) = false := by simpa using hk
    have HK := Lib.hid (show kindO s.kind = s.kind by simp [kindO, hk])
    go_enter Tryd.func40, Tryd.ntmps40
    go_wp2
    go_region_held3 (fun w' => w'.cell? ⟨p, 9, none⟩ = some (.slice A s.prints.length c) ∧ w'.cell? ⟨p, 14, none⟩ = some (.int .i64 s.val)) (first | exact ⟨k0, k1⟩ | (go_keep; done) | trace_state)
      (first | (obtain ⟨s0, s1⟩ := ‹_ ∧ _›; go_at_call 64; refine (clone_nums (own_fr HO.out (Fr.of_below (M := fun _ => False) ?za) ?zb) hpl).mono ?_; (case za => go_grown); (case zb => exact fun _ _ => not_false); rintro e w1 ⟨v, rfl, hv, hb⟩; obtain ⟨A1, c1, rfl⟩ := own_shape hv; have k0 := hb.cell (p := ⟨p, 9, none⟩) ?zc; (case zc => simp; omega); rw [s0] at k0; have k1 := hb.cell (p := ⟨p, 14, none⟩) ?zc; (case zc => simp; omega); rw [s1] at k1; have z0 : w1.cell? ⟨w.heap.size, 0, none⟩ = some (.slice none 0 0) := (hb.cell (p := ⟨w.heap.size, 0, none⟩) ?za).trans ?zb; (case za => simp); (case zb => simp [go_sem]); have y0 : w1.frozen? ⟨w.heap.size, 0, none⟩ = false := (hb.frozen (p := ⟨w.heap.size, 0, none⟩) ?za).trans ?zb; (case za => simp); (case zb => simp [go_sem]); have z1 : w1.cell? ⟨w.heap.size, 1, none⟩ = some (.int .i64 0) := (hb.cell (p := ⟨w.heap.size, 1, none⟩) ?za).trans ?zb; (case za => simp); (case zb => simp [go_sem]); have y1 : w1.frozen? ⟨w.heap.size, 1, none⟩ = false := (hb.frozen (p := ⟨w.heap.size, 1, none⟩) ?za).trans ?zb; (case za => simp); (case zb => simp [go_sem]); have z2 : w1.cell? ⟨w.heap.size, 2, none⟩ = some (.int .i64 0) := (hb.cell (p := ⟨w.heap.size, 2, none⟩) ?za).trans ?zb; (case za => simp); (case zb => simp [go_sem]); have y2 : w1.frozen? ⟨w.heap.size, 2, none⟩ = false := (hb.frozen (p := ⟨w.heap.size, 2, none⟩) ?za).trans ?zb; (case za => simp); (case zb => simp [go_sem]); clear s0 s1))
    go_wp2
    refine bodyPost_ret (v := .agg #[.slice A1 s.prints.length c1, .int .i64 s.kind, .int .i64 s.val]) (by simp [results, Tryd.results40, go_sem, *]) rfl ⟨_, by rw [HK.out], ?_, ?_⟩
    · exact own_le (Nat.le_succ _) (own_setb (Nat.lt_succ_self _) _ (own_setb (Nat.lt_succ_self _) _ (own_setb (Nat.lt_succ_self _) _ (own_le (by simp) hv))))
    · exact ((((Below.refl _ w).alloc (Nat.le_refl _) _).drew.trans (hb.mono (B' := w.heap.size) (by simp))).setCell (Nat.le_refl _) _).setCell (Nat.le_refl _) _ |>.setCell (Nat.le_refl _) _
end Go.Proofs.YtfkjkdoloamakaaDoor

/- What Run of an Engine of package run leaves: the state is St.run. -/
namespace Go.Proofs.YtfkjkdoloamakaaDoor
open Go.RowKit
set_option linter.unusedVariables false
set_option linter.unusedSimpArgs false
variable {F : Nat → Prop} {w0 w : World} {M0 : Nat → Prop} {p : Nat} {U : UnS} {s : St}

theorem St.enter_steps (s : St) (b : Nat) : (s.enter b).steps = s.steps := rfl
theorem St.trap_steps (U : UnS) (s : St) (n : Int) : (s.trap U n).steps = s.steps := by
  unfold St.trap; split <;> rfl
theorem St.act_steps (s : St) (o : OpI) : (s.act o).1.steps = s.steps := by
  unfold St.act; repeat' (first | rfl | split)
theorem St.doR_steps (s : St) (o : OpI) : (s.doR o).1.steps = s.steps := by
  unfold St.doR; repeat' (first | rfl | exact St.act_steps _ _ | split)
theorem St.leave_steps (U : UnS) (s : St) (x : EdS) : (s.leave U x).steps = s.steps := by
  unfold St.leave; repeat' (first | rfl | exact St.trap_steps _ _ _ | split)
theorem St.step_steps (U : UnS) (s : St) : (s.step U).steps = s.steps + 1 := by
  unfold St.step
  simp only
  split
  · rw [St.leave_steps]
  split
  · rw [St.trap_steps, St.doR_steps]
  split
  · rw [St.doR_steps]
  · show (St.doR _ _).1.steps = _
    rw [St.doR_steps]
theorem St.run_stop (U : UnS) : ∀ (n : Nat) (s : St), s.kind ≠ 0 → St.run U n s = s
  | 0, s, _ => rfl
  | n + 1, s, h => if_neg h
theorem St.run_succ (U : UnS) : ∀ (n : Nat) (s : St), St.run U (n + 1) s = if (St.run U n s).kind = 0 then (St.run U n s).step U else St.run U n s
  | 0, s => rfl
  | n + 1, s => by
    by_cases h : s.kind = 0
    · have e1 : St.run U (n + 1 + 1) s = St.run U (n + 1) (s.step U) := if_pos h
      have e2 : St.run U (n + 1) s = St.run U n (s.step U) := if_pos h
      rw [e1, e2]; exact St.run_succ U n (s.step U)
    · rw [St.run_stop U _ s h, St.run_stop U _ s h, if_neg h]
theorem St.run_add (U : UnS) : ∀ (m n : Nat) (s : St), St.run U (m + n) s = St.run U n (St.run U m s)
  | 0, n, s => by rw [Nat.zero_add]; rfl
  | m + 1, n, s => by
    by_cases h : s.kind = 0
    · rw [show m + 1 + n = (m + n) + 1 by omega]
      have e1 : St.run U (m + n + 1) s = St.run U (m + n) (s.step U) := if_pos h
      have e2 : St.run U (m + 1) s = St.run U m (s.step U) := if_pos h
      rw [e1, e2]; exact St.run_add U m n (s.step U)
    · rw [St.run_stop U _ s h, St.run_stop U _ s h, St.run_stop U _ s h]
theorem St.run_steps (U : UnS) : ∀ (n : Nat) (s : St), s.steps ≤ (St.run U n s).steps ∧ (St.run U n s).steps ≤ s.steps + n
  | 0, s => ⟨Int.le_refl _, by show s.steps ≤ s.steps + (0 : Nat); omega⟩
  | n + 1, s => by
    by_cases h : s.kind = 0
    · have e1 : St.run U (n + 1) s = St.run U n (s.step U) := if_pos h
      have := St.run_steps U n (s.step U)
      rw [St.step_steps] at this
      rw [e1]; omega
    · rw [St.run_stop U _ s h]; omega
theorem StGood.run (G : UnGood U) : ∀ (n : Nat) (s : St), StGood U s → s.steps + n ≤ 1000000000000 → StGood U (St.run U n s)
  | 0, s, S, _ => S
  | n + 1, s, S, h => by
    by_cases hk : s.kind = 0
    · have e1 : St.run U (n + 1) s = St.run U n (s.step U) := if_pos hk
      rw [e1]
      exact StGood.run G n _ (S.step G (by omega)) (by rw [St.step_steps]; omega)
    · rw [St.run_stop U _ s hk]; exact S

/-- an engine's own blocks are there -/
theorem Eng.mlt {y : Lay} {L : EngL} (E : Eng y F w p U s L) {b : Nat} (h : L.M p b) : b < w.heap.size := by
  have ho : ∀ {base : Nat} {e : TypeId} {size n : Nat} {v : Value} {xs : List Value}, w.ownsRow base e size v n xs → v.ownBlock = some b → b < w.heap.size := by
    intro base e size n v xs h hb
    rcases h.2 with ⟨h0, _⟩ | ⟨g, cap, cur, rfl, hg, hc, _⟩
    · rw [h0] at hb; cases hb
    · injection hb with hb
      simp only at hb
      subst hb
      rcases Nat.lt_or_ge g w.heap.size with h' | h'
      · exact h'
      · rw [Array.getElem?_eq_none h'] at hc; cases hc
  rcases h with h | h | h | h | h | h | h | h
  · subst h; exact E.blk.lt
  · subst h; exact E.regs.lt
  · subst h; exact E.kept.lt
  · subst h; exact E.seen.lt
  · exact ho E.arrs h
  · exact ho E.prints h
  · exact ho E.ways h
  · obtain ⟨cs, hB⟩ := E.ga_mem h; exact hB.lt
theorem EngX.alloc {y : Lay} (E : EngX y F w0 M0 w p U s) (o : Obj) : EngX y F w0 M0 (w.alloc o) p U s := by
  obtain ⟨L, Q⟩ := E; exact ⟨L, Q.alloc o⟩
theorem EngX.drewN {y : Lay} (E : EngX y F w0 M0 w p U s) (n : Nat) : EngX y F w0 M0 (w.drewN n) p U s := by
  obtain ⟨L, Q⟩ := E; exact ⟨L, Q.drewN n⟩
theorem EngX.below {y : Lay} {w' : World} (E : EngX y F w0 M0 w p U s) (hb : Below w.heap.size w w') : EngX y F w0 M0 w' p U s := by
  obtain ⟨L, Q⟩ := E; exact ⟨L, Q.below hb⟩
/-- an engine and a row that is not one of its own -/
def EngV (F : Nat → Prop) (w0 : World) (M0 : Nat → Prop) (w : World) (p : Nat) (U : UnS) (s : St) (v : Value) : Prop := ∃ L, EngQ layP F w0 M0 w p U s L ∧ ∀ b, L.M p b → v.ownBlock ≠ some b
theorem EngX.beside (E : EngX layP F w0 M0 w p U s) {w' : World} (hb : Below w.heap.size w w') {v : Value} {e : TypeId} {size n : Nat} {xs : List Value} (h : w'.ownsRow w.heap.size e size v n xs) : EngV F w0 M0 w' p U s v := by
  obtain ⟨L, Q⟩ := E
  refine ⟨L, Q.below hb, fun b hM hv => ?_⟩
  have := Q.e.mlt hM
  rcases h.2 with ⟨h0, _⟩ | ⟨g, cap, cur, rfl, hg, hc, _⟩
  · rw [h0] at hv; cases hv
  · injection hv with hv
    simp only at hv
    omega

theorem EngX.rebase {y : Lay} {L : EngL} {w' : World} {s' : St} (Q : EngQ y F w0 M0 w p U s L) (E : EngX y F w (L.M p) w' p U s') : EngX y F w0 M0 w' p U s' := by
  obtain ⟨L', Q'⟩ := E
  exact ⟨L', Q'.e, Q.f.trans Q'.f Q.m, fun b hb => (Q'.m b hb).elim (Q.m b) fun h => .inr (Nat.le_trans Q.f.size h)⟩
theorem EngV.rebase {L : EngL} {w' : World} {s' : St} {v : Value} (Q : EngQ layP F w0 M0 w p U s L) (E : EngV F w (L.M p) w' p U s' v) : EngV F w0 M0 w' p U s' v := by
  obtain ⟨L', Q', h⟩ := E
  exact ⟨L', ⟨Q'.e, Q.f.trans Q'.f Q.m, fun b hb => (Q'.m b hb).elim (Q.m b) fun h => .inr (Nat.le_trans Q.f.size h)⟩, h⟩
theorem EngQ.noForms {y : Lay} {L : EngL} (Q : EngQ y F w0 M0 w p U s L) (V : Env w0) (hM : ¬ M0 0) : ¬ L.M p 0 := fun h => (Q.m _ h).elim hM fun h => by
  have := lt_of_var gForms V; omega

theorem Fr.frozen {M : Nat → Prop} {w w' : World} (h : Fr M w w') {a : Addr} {v : Bool} (hc : w.frozen? a = v) (hl : a.block < w.heap.size) (hn : ¬ M a.block) : w'.frozen? a = v :=
  (World.frozen?_of_block (h.block a.block hl hn)).trans hc
theorem Fr.three (w : World) (g i j k : Nat) (u v x : Value) : Fr (fun b => b = g) w (((w.setCell ⟨g, i, none⟩ u).setCell ⟨g, j, none⟩ v).setCell ⟨g, k, none⟩ x) := Fr.setCell (M := fun b => b = g) (p := ⟨g, k, none⟩) (Fr.two w g i j u v) (.inl rfl) x
theorem EngV.close {L : EngL} {W1 w1 w' : World} {s' : St} {v : Value} (Q1 : EngQ layP F w0 M0 W1 p U s L) (E : EngV F W1 (L.M p) w1 p U s' v) {M : Nat → Prop} (hf : Fr M w1 w') (h1 : ∀ b, M b → w0.heap.size ≤ b) (h2 : ∀ b, M b → ¬ L.M p b ∧ b < W1.heap.size) (hF : ∀ g, F g → ¬ M g) : EngV F w0 M0 w' p U s' v := by
  obtain ⟨L', Q', h⟩ := E
  have hn : ∀ b, L'.M p b → ¬ M b := fun b hb hM => (Q'.m b hb).elim (h2 b hM).1 fun h => by have := (h2 b hM).2; omega
  exact ⟨L', ⟨Q'.e.fr hf hn hF, (Q1.f.trans Q'.f Q1.m).trans hf fun i hi => .inr (h1 i hi), fun b hb => (Q'.m b hb).elim (Q1.m b) fun h => .inr (Nat.le_trans Q1.f.size h)⟩, h⟩

set_option maxRecDepth 100000 in
set_option maxHeartbeats 1000000 in
theorem erun_any (S : StGood U s) (G : UnGood U) (E : EngX layP F w0 M0 w p U s) (V : Env w0) (hM : ¬ M0 0) (n : Int) (h0 : 0 ≤ n) (h1 : n ≤ 4194304) (hs : s.steps ≤ 4194304) :
    Calls Tryd.prog 22 #[.pointer (some ⟨p, 0, none⟩), .int .i64 n] w fun e w' => ∃ v, e = .returned (.tuple #[.agg #[v, .int .i64 (kindO (St.run U n.toNat s).kind), .int .i64 (St.run U n.toNat s).val], .bool (decide ((St.run U n.toNat s).kind ≠ 0)), .int .i64 0]) ∧ w'.ownsRow w.heap.size 2 1 v (St.run U n.toNat s).prints.length (numV (St.run U n.toNat s).prints) ∧ EngV F w0 M0 w' p U (St.run U n.toNat s) v := by
  obtain ⟨L, Q⟩ := E
  have hst := S.st0
  have lp : p < w.heap.size := Q.e.blk.lt
  have np : p ≠ w.heap.size := by omega
  have np' := np.symm
  have h12 := P12 Q.e
  obtain ⟨st, hse⟩ : ∃ st, st = s.steps := ⟨_, rfl⟩
  rw [← hse] at h12 hst hs
  obtain ⟨W1, hW1⟩ : ∃ W1, W1 = w.alloc (.cells #[.slice none 0 0, .int .i64 0, .int .i64 0] 30) := ⟨_, rfl⟩
  have Q1 : EngQ layP F w0 M0 W1 p U s L := hW1 ▸ Q.alloc _
  have V1 : Env W1 := by rw [hW1]; exact (V.fr Q.f hM).below ((Below.refl _ _).alloc (Nat.le_refl _) _)
  have hM1 := Q.noForms V hM
  have hz : w.heap.size < W1.heap.size := by rw [hW1]; simp
  have hnM : ¬ L.M p w.heap.size := fun h => Nat.lt_irrefl _ (Q.e.mlt h)
  have z0 : W1.cell? ⟨w.heap.size, 0, none⟩ = some (.slice none 0 0) := by rw [hW1]; simp [go_sem]
  have z1 : W1.cell? ⟨w.heap.size, 1, none⟩ = some (.int .i64 0) := by rw [hW1]; simp [go_sem]
  have z2 : W1.cell? ⟨w.heap.size, 2, none⟩ = some (.int .i64 0) := by rw [hW1]; simp [go_sem]
  have y0 : W1.frozen? ⟨w.heap.size, 0, none⟩ = false := by rw [hW1]; simp [go_sem]
  have y1 : W1.frozen? ⟨w.heap.size, 1, none⟩ = false := by rw [hW1]; simp [go_sem]
  have y2 : W1.frozen? ⟨w.heap.size, 2, none⟩ = false := by rw [hW1]; simp [go_sem]
  have HG := Lib.hid G
  have HS := Lib.hid S
  have HQ := Lib.hid Q
  have HQ1 := Lib.hid Q1
  have HV := Lib.hid V1
  have HW := Lib.hid hW1
  have HZ := Lib.hid (And.intro z0 (And.intro z1 (And.intro z2 (And.intro y0 (And.intro y1 y2)))))
  have HR := Lib.hid (fun (k : Nat) (hk : (k : Int) ≤ n) => StGood.run G k s S (by omega))
  have HT := Lib.hid (fun (k : Nat) (hk : (k : Int) ≤ n) => show (St.run U k s).steps < 1000000000000 by have := (St.run_steps U k s).2; omega)
  clear G S Q V V1 hW1 Q1 hse z0 z1 z2 y0 y1 y2
  go_enter Tryd.func22, Tryd.ntmps22
  go_wp2_with (go_at_call 51; refine (ok_any HG.out HS.out (HQ.out.alloc _).x).mono ?_; rintro e w1 ⟨rfl, rfl⟩)
  go_loopw [7] (fun i wr => ∃ k : Nat, (k : Int) ≤ n ∧ i = .int .i64 k ∧ EngX layP F W1 (L.M p) wr p U (St.run U k s)) (fun i _ => n.toNat - (intOf i).toNat)
  case atStart => exact ⟨0, h0, rfl, by rw [← HW.out]; exact HQ1.out.e.q.x⟩
  case round =>
    obtain ⟨k, hk, rfl, E'⟩ := hrel
    by_cases hkn : (k : Int) < n
    · obtain ⟨L2, Q2⟩ := E'
      have h13 := P13 Q2.e
      by_cases hkd : (St.run U k s).kind = 0
      · have HKD := Lib.hid hkd
        rw [hkd] at h13
        have HQ2 := Lib.hid Q2
        clear Q2 hkd
        go_wp2_with (go_at_call 52; refine (step_any (HR.out k (Int.le_of_lt hkn)) HG.out HQ2.out.x HV.out hM1 (HT.out k (Int.le_of_lt hkn))).mono ?_; rintro e w2 ⟨rfl, E2⟩)
        go_roundw
        case rel => exact ⟨k + 1, by omega, by go_num, by rw [St.run_succ, if_pos HKD.out]; exact E2⟩
        case measure => simp [intOf]; omega
      · have hrun : St.run U n.toNat s = St.run U k s := by
          rw [show n.toNat = k + (n.toNat - k) by omega, St.run_add, St.run_stop U _ _ hkd]
        have HKD := Lib.hid hkd
        clear hkd
        obtain ⟨kd, hkd'⟩ : ∃ kd, kd = (St.run U k s).kind := ⟨_, rfl⟩
        rw [← hkd'] at h13
        have HKO : Hid ((St.run U k s).kind = kd) := Lib.hid hkd'.symm
        have hsz := Q2.f.size
        have hzr : w.heap.size < wr.heap.size := Nat.lt_of_lt_of_le hz hsz
        have zr0 := Q2.f.cell HZ.out.1 hnM
        have zr1 := Q2.f.cell HZ.out.2.1 hnM
        have zr2 := Q2.f.cell HZ.out.2.2.1 hnM
        have yr0 := Fr.frozen Q2.f HZ.out.2.2.2.1 hz hnM
        have yr1 := Fr.frozen Q2.f HZ.out.2.2.2.2.1 hz hnM
        have yr2 := Fr.frozen Q2.f HZ.out.2.2.2.2.2 hz hnM
        have HQ2 := Lib.hid Q2
        have HS2 := Lib.hid (HR.out k hk)
        have HRUN := Lib.hid hrun
        clear Q2 hrun hkd'
        obtain ⟨s2, hs2⟩ : ∃ s2, s2 = St.run U k s := ⟨_, rfl⟩
        rw [← hs2] at HRUN HKO HQ2 HS2 HKD
        clear hs2
        have hkd : ¬ kd = 0 := by rw [← HKO.out]; exact HKD.out
        have hkb : (kd == 0) = false := by simpa using hkd
        have HD := Lib.hid (show decide (s2.kind ≠ 0) = true by rw [HKO.out]; simpa using hkd)
        go_wp2
        go_region_held3 (fun w' => w'.cell? ⟨p, 13, none⟩ = some (.int .i64 kd)) (first | exact k0 | (go_keep; done))
          (first | (go_at_call 40; refine (outcome_any HS2.out (HQ2.out.drewN 1).x).mono ?_; rintro e w1 ⟨v, rfl, hv, hb⟩; obtain ⟨A1, c1, rfl⟩ := own_shape hv; have k0 := (hb.cell (p := ⟨p, 13, none⟩) ?za).trans h13; (case za => exact Nat.lt_of_lt_of_le lp (Nat.le_of_lt hzr)); have z0 : w1.cell? ⟨w.heap.size, 0, none⟩ = some (.slice none 0 0) := (hb.cell (p := ⟨w.heap.size, 0, none⟩) ?za).trans zr0; (case za => exact hzr); have y0 : w1.frozen? ⟨w.heap.size, 0, none⟩ = false := (hb.frozen (p := ⟨w.heap.size, 0, none⟩) ?za).trans yr0; (case za => exact hzr); have z1 : w1.cell? ⟨w.heap.size, 1, none⟩ = some (.int .i64 0) := (hb.cell (p := ⟨w.heap.size, 1, none⟩) ?za).trans zr1; (case za => exact hzr); have y1 : w1.frozen? ⟨w.heap.size, 1, none⟩ = false := (hb.frozen (p := ⟨w.heap.size, 1, none⟩) ?za).trans yr1; (case za => exact hzr); have z2 : w1.cell? ⟨w.heap.size, 2, none⟩ = some (.int .i64 0) := (hb.cell (p := ⟨w.heap.size, 2, none⟩) ?za).trans zr2; (case za => exact hzr); have y2 : w1.frozen? ⟨w.heap.size, 2, none⟩ = false := (hb.frozen (p := ⟨w.heap.size, 2, none⟩) ?za).trans yr2; (case za => exact hzr)))
        go_wp2
        refine bodyPost_ret (v := .tuple #[.agg #[.slice A1 s2.prints.length c1, .int .i64 (kindO s2.kind), .int .i64 s2.val], .bool true, .int .i64 0]) (by simp [results, Tryd.results22, go_sem, *]) rfl ?_
        rw [HRUN.out]
        refine ⟨_, by rw [HD.out], ?_, EngV.close HQ1.out (EngX.beside (HQ2.out.drewN 1).x hb hv) (M := fun b => b = w.heap.size) (Fr.three _ _ _ _ _ _ _ _) (fun b hb => ?_) (fun b hb => ?_) (fun g hg hb => ?_)⟩
        · exact own_le (Nat.le_of_lt hzr) (own_setb hzr _ (own_setb hzr _ (own_setb hzr _ hv)))
        · subst hb; exact HQ.out.f.size
        · subst hb; exact ⟨hnM, hz⟩
        · subst hb; exact Nat.lt_irrefl _ (HQ.out.e.flt _ hg)
    · have hrun : St.run U n.toNat s = St.run U k s := by rw [show n.toNat = k by omega]
      obtain ⟨L2, Q2⟩ := E'
      have h13 := P13 Q2.e
      obtain ⟨kd, hkd'⟩ : ∃ kd, kd = (St.run U k s).kind := ⟨_, rfl⟩
      rw [← hkd'] at h13
      have HKO : Hid ((St.run U k s).kind = kd) := Lib.hid hkd'.symm
      have hsz := Q2.f.size
      have hzr : w.heap.size < wr.heap.size := Nat.lt_of_lt_of_le hz hsz
      have zr0 := Q2.f.cell HZ.out.1 hnM
      have zr1 := Q2.f.cell HZ.out.2.1 hnM
      have zr2 := Q2.f.cell HZ.out.2.2.1 hnM
      have yr0 := Fr.frozen Q2.f HZ.out.2.2.2.1 hz hnM
      have yr1 := Fr.frozen Q2.f HZ.out.2.2.2.2.1 hz hnM
      have yr2 := Fr.frozen Q2.f HZ.out.2.2.2.2.2 hz hnM
      have HQ2 := Lib.hid Q2
      have HS2 := Lib.hid (HR.out k hk)
      have HRUN := Lib.hid hrun
      clear Q2 hrun hkd'
      obtain ⟨s2, hs2⟩ : ∃ s2, s2 = St.run U k s := ⟨_, rfl⟩
      rw [← hs2] at HRUN HKO HQ2 HS2
      clear hs2
      by_cases hkd : kd = 0
      · subst hkd
        have HD := Lib.hid (show decide (s2.kind ≠ 0) = false by rw [HKO.out]; rfl)
        go_wp2
        go_region_held3 (fun w' => w'.cell? ⟨p, 13, none⟩ = some (.int .i64 0)) (first | exact k0 | (go_keep; done))
          (first | (go_at_call 40; refine (outcome_any HS2.out (HQ2.out.drewN 1).x).mono ?_; rintro e w1 ⟨v, rfl, hv, hb⟩; obtain ⟨A1, c1, rfl⟩ := own_shape hv; have k0 := (hb.cell (p := ⟨p, 13, none⟩) ?za).trans h13; (case za => exact Nat.lt_of_lt_of_le lp (Nat.le_of_lt hzr)); have z0 : w1.cell? ⟨w.heap.size, 0, none⟩ = some (.slice none 0 0) := (hb.cell (p := ⟨w.heap.size, 0, none⟩) ?za).trans zr0; (case za => exact hzr); have y0 : w1.frozen? ⟨w.heap.size, 0, none⟩ = false := (hb.frozen (p := ⟨w.heap.size, 0, none⟩) ?za).trans yr0; (case za => exact hzr); have z1 : w1.cell? ⟨w.heap.size, 1, none⟩ = some (.int .i64 0) := (hb.cell (p := ⟨w.heap.size, 1, none⟩) ?za).trans zr1; (case za => exact hzr); have y1 : w1.frozen? ⟨w.heap.size, 1, none⟩ = false := (hb.frozen (p := ⟨w.heap.size, 1, none⟩) ?za).trans yr1; (case za => exact hzr); have z2 : w1.cell? ⟨w.heap.size, 2, none⟩ = some (.int .i64 0) := (hb.cell (p := ⟨w.heap.size, 2, none⟩) ?za).trans zr2; (case za => exact hzr); have y2 : w1.frozen? ⟨w.heap.size, 2, none⟩ = false := (hb.frozen (p := ⟨w.heap.size, 2, none⟩) ?za).trans yr2; (case za => exact hzr)))
        go_wp2
        refine bodyPost_ret (v := .tuple #[.agg #[.slice A1 s2.prints.length c1, .int .i64 (kindO s2.kind), .int .i64 s2.val], .bool false, .int .i64 0]) (by simp [results, Tryd.results22, go_sem, *]) rfl ?_
        rw [HRUN.out]
        refine ⟨_, by rw [HD.out], ?_, EngV.close HQ1.out (EngX.beside (HQ2.out.drewN 1).x hb hv) (M := fun b => b = w.heap.size) (Fr.three _ _ _ _ _ _ _ _) (fun b hb => ?_) (fun b hb => ?_) (fun g hg hb => ?_)⟩
        · exact own_le (Nat.le_of_lt hzr) (own_setb hzr _ (own_setb hzr _ (own_setb hzr _ hv)))
        · subst hb; exact HQ.out.f.size
        · subst hb; exact ⟨hnM, hz⟩
        · subst hb; exact Nat.lt_irrefl _ (HQ.out.e.flt _ hg)
      · have hkb : (kd == 0) = false := by simpa using hkd
        have HD := Lib.hid (show decide (s2.kind ≠ 0) = true by rw [HKO.out]; simpa using hkd)
        go_wp2
        go_region_held3 (fun w' => w'.cell? ⟨p, 13, none⟩ = some (.int .i64 kd)) (first | exact k0 | (go_keep; done))
          (first | (go_at_call 40; refine (outcome_any HS2.out (HQ2.out.drewN 1).x).mono ?_; rintro e w1 ⟨v, rfl, hv, hb⟩; obtain ⟨A1, c1, rfl⟩ := own_shape hv; have k0 := (hb.cell (p := ⟨p, 13, none⟩) ?za).trans h13; (case za => exact Nat.lt_of_lt_of_le lp (Nat.le_of_lt hzr)); have z0 : w1.cell? ⟨w.heap.size, 0, none⟩ = some (.slice none 0 0) := (hb.cell (p := ⟨w.heap.size, 0, none⟩) ?za).trans zr0; (case za => exact hzr); have y0 : w1.frozen? ⟨w.heap.size, 0, none⟩ = false := (hb.frozen (p := ⟨w.heap.size, 0, none⟩) ?za).trans yr0; (case za => exact hzr); have z1 : w1.cell? ⟨w.heap.size, 1, none⟩ = some (.int .i64 0) := (hb.cell (p := ⟨w.heap.size, 1, none⟩) ?za).trans zr1; (case za => exact hzr); have y1 : w1.frozen? ⟨w.heap.size, 1, none⟩ = false := (hb.frozen (p := ⟨w.heap.size, 1, none⟩) ?za).trans yr1; (case za => exact hzr); have z2 : w1.cell? ⟨w.heap.size, 2, none⟩ = some (.int .i64 0) := (hb.cell (p := ⟨w.heap.size, 2, none⟩) ?za).trans zr2; (case za => exact hzr); have y2 : w1.frozen? ⟨w.heap.size, 2, none⟩ = false := (hb.frozen (p := ⟨w.heap.size, 2, none⟩) ?za).trans yr2; (case za => exact hzr)))
        go_wp2
        refine bodyPost_ret (v := .tuple #[.agg #[.slice A1 s2.prints.length c1, .int .i64 (kindO s2.kind), .int .i64 s2.val], .bool true, .int .i64 0]) (by simp [results, Tryd.results22, go_sem, *]) rfl ?_
        rw [HRUN.out]
        refine ⟨_, by rw [HD.out], ?_, EngV.close HQ1.out (EngX.beside (HQ2.out.drewN 1).x hb hv) (M := fun b => b = w.heap.size) (Fr.three _ _ _ _ _ _ _ _) (fun b hb => ?_) (fun b hb => ?_) (fun g hg hb => ?_)⟩
        · exact own_le (Nat.le_of_lt hzr) (own_setb hzr _ (own_setb hzr _ (own_setb hzr _ hv)))
        · subst hb; exact HQ.out.f.size
        · subst hb; exact ⟨hnM, hz⟩
        · subst hb; exact Nat.lt_irrefl _ (HQ.out.e.flt _ hg)
end Go.Proofs.YtfkjkdoloamakaaDoor

/- What Copy of package code leaves: a unit of the same content in memory of its own. -/
namespace Go.Proofs.YtfkjkdoloamakaaDoor
open Go.RowKit
set_option linter.unusedVariables false
set_option linter.unusedSimpArgs false
variable {w : World} {U : UnS} {Av Ab : Option Addr} {cv cb : Nat} {F : Nat → Prop}

theorem row_read {v : Value} {n size : Nat} {xs : List Value} (h : Row F w v n size xs) : ∃ A c, v = .slice A n c ∧ (A = none → n = 0) ∧ ∀ ad, A = some ad → ∀ j u, xs[j]? = some u → w.cell? (ad.add j) = some u := by
  obtain ⟨h0, A, c, rfl, _, _, h1⟩ := h
  refine ⟨A, c, rfl, fun e => ?_, fun ad e j u hu => ?_⟩
  · rcases Nat.eq_zero_or_pos n with h | h
    · exact h
    · obtain ⟨g, o, e2, _⟩ := h1 h
      rw [e] at e2; cases e2
  · rcases Nat.eq_zero_or_pos n with h | h
    · subst h
      rw [Nat.zero_mul] at h0
      obtain rfl := List.eq_nil_of_length_eq_zero h0
      simp at hu
    · obtain ⟨g, o, e2, _, _, h2⟩ := h1 h
      rw [e] at e2
      injection e2 with e2
      subst e2
      rw [Addr.add_lit]
      exact h2 j u hu
theorem blsC_one : ∀ (vs : List Value) (bs : List BlkS), (∀ v ∈ vs, v.oneCell' = true) → ∀ u ∈ blsC vs bs, u.oneCell' = true
  | [], _, _, u, h => by simp [blsC] at h
  | _ :: _, [], _, u, h => by simp [blsC] at h
  | v :: vs, b :: r, hv, u, h => by
    simp only [blsC, edC, List.cons_append, List.nil_append, List.mem_cons] at h
    rcases h with rfl | rfl | rfl | rfl | rfl | rfl | h
    · exact hv _ List.mem_cons_self
    · rfl
    · rfl
    · rfl
    · rfl
    · rfl
    · exact blsC_one vs r (fun v h => hv v (List.mem_cons_of_mem _ h)) u h
theorem opsC_one : ∀ (l : List OpI), ∀ u ∈ opsC l, u.oneCell' = true
  | [], u, h => by simp [opsC] at h
  | o :: r, u, h => by
    simp only [opsC, opC, List.cons_append, List.nil_append, List.mem_cons] at h
    rcases h with rfl | rfl | rfl | rfl | rfl | rfl | rfl | h <;> first | rfl | exact opsC_one r u h
theorem clone_sizes (hs : Row F w (.slice Av U.sizes.length cv) U.sizes.length 1 (numV U.sizes)) (hz : U.sizes.length ≤ 16) {W : World} (hb : Below w.heap.size w W) :
    Calls Tryd.prog 66 #[.slice Av U.sizes.length cv] W fun e w' => ∃ A c, e = .returned (.slice A U.sizes.length c) ∧ w'.ownsRow W.heap.size 3 1 (.slice A U.sizes.length c) U.sizes.length (numV U.sizes) ∧ Below W.heap.size W w' := by
  obtain ⟨A, c, e, h0, h1⟩ := row_read (hs.fr (M := fun _ => False) (Fr.of_below hb) fun _ _ => not_false)
  injection e with e1 _ e2
  subst e1 e2
  refine (clone_int Av U.sizes.length cv (numV U.sizes) W h0 (by simp [numV]) (by unfold maxLen; omega) (by omega) h1 num_one).mono ?_
  rintro e w' ⟨v', rfl, h2, h3⟩
  obtain ⟨A, c, rfl, _⟩ := own_read h2
  exact ⟨A, c, rfl, h2, h3⟩
theorem clone_blocks {vs : List Value} {bs : List BlkS} {A : Option Addr} {c : Nat} (hl : vs.length = bs.length) (hs : Row F w (.slice A bs.length c) bs.length 6 (blsC vs bs)) (h1c : ∀ v ∈ vs, v.oneCell' = true) (hn : 0 < bs.length) (hz : bs.length ≤ 2000) {W : World} (hb : Below w.heap.size w W) :
    Calls Tryd.prog 113 #[.slice A bs.length c] W fun e w' => ∃ g c', e = .returned (.slice (some ⟨g, 0, none⟩) bs.length c') ∧ w'.ownsRow W.heap.size 73 6 (.slice (some ⟨g, 0, none⟩) bs.length c') bs.length (blsC vs bs) ∧ Below W.heap.size W w' := by
  obtain ⟨A', c', e, h0, h1⟩ := row_read (hs.fr (M := fun _ => False) (Fr.of_below hb) fun _ _ => not_false)
  injection e with e1 _ e2
  subst e1 e2
  refine (clone_blk A bs.length c (blsC vs bs) W h0 (blsC_length _ _ hl) (by unfold maxLen; omega) (by omega) h1 (blsC_one vs bs h1c)).mono ?_
  rintro e w' ⟨v', rfl, h2, h3⟩
  obtain ⟨g, c', rfl⟩ := own_form h2 hn
  exact ⟨g, c', rfl, h2, h3⟩
end Go.Proofs.YtfkjkdoloamakaaDoor
