/- The checker of package code: what it says of wrong ends. -/
import Derived.Test.YtfkjkdoloamakaaDoorMe
namespace Go.Proofs.YtfkjkdoloamakaaDoor
open Go.RowKit
set_option linter.unusedVariables false
set_option linter.unusedSimpArgs false
variable {w : World} {c : Nat} {U : UnS} {Av Ab : Option Addr} {cv cb : Nat}
theorem drewN_bel (w : World) (n : Nat) : Below w.heap.size w (w.drewN n) := ⟨rfl, rfl, rfl, Nat.le_refl _, fun _ _ => rfl⟩
theorem CkP.drewN (h : CkP w c) (n : Nat) : CkP (w.drewN n) c := h
theorem CkP.drew (h : CkP w c) : CkP w.drew c := h
theorem quietS {P : Program} {f : FuncId} {args : Array Value} {w : World} {n : Nat} {v : Value} (h : Calls P f args (w.drewN n) fun e w' => e = .returned v ∧ w.drewN n = w') :
    Calls P f args (w.drewN n) fun e w'' => e = .returned v ∧ ∃ m, w'' = w.drewN m := h.mono fun _ _ ⟨he, hm⟩ => ⟨he, n, hm.symm⟩
theorem bel_drew {B : Nat} {a w : World} (h : Below B a w) : Below B a w.drew := ⟨h.os, h.tape, h.output, h.size, h.block⟩

set_option maxRecDepth 100000 in
set_option maxHeartbeats 1000000 in
theorem endx_kindlo (k a t l : Int) (hk : k < 1) (K : Ck w c U Av cv Ab cb) (KP : CkP w c) (hbl : U.blocks.length ≤ 2000) :
    Calls Tryd.prog 95 #[.pointer (some ⟨c, 0, none⟩), .agg #[.int .i64 k, .int .i64 a, .int .i64 t, .int .i64 l]] w fun x w' => Died 4 x ∧ Below w.heap.size w w' := by
  have lc := lt_cell K.c2
  have nc : c ≠ w.heap.size := by omega
  have nc' := nc.symm
  have K2 := K.c2
  have K5 := K.c5
  have HP := Lib.hid (KP.alloc (.cells #[.int .i64 k, .int .i64 a, .int .i64 t, .int .i64 l] 71))
  clear K KP
  go_enter Tryd.func95, Tryd.ntmps95
  go_wp2_with (first
    | (go_at_call 91; (with_reducible refine (must_bad (c := c) _ _ ?rd).mono ?_); (case rd => with_reducible (first | exact HP.out | exact HP.out.drewN _ | exact HP.out.drew)); rintro x w3 ⟨⟨b0, a0, rfl⟩, hb3⟩; have HB3 := Lib.hid hb3; clear hb3))
  refine ⟨rfl, ⟨_, _, rfl⟩, Below.trans ?_ (HB3.out.mono ?_)⟩
  · repeat' (first | with_reducible exact Below.refl _ _ | with_reducible refine Below.drew ?_ | with_reducible refine drewN_below ?_ _ | with_reducible refine Below.alloc ?_ ?_ _ | with_reducible exact Nat.le_refl _ | (simp; done))
  · simp

set_option maxRecDepth 100000 in
set_option maxHeartbeats 1000000 in
theorem endx_kindhi (k a t l : Int) (hk : 4 < k) (K : Ck w c U Av cv Ab cb) (KP : CkP w c) (hbl : U.blocks.length ≤ 2000) :
    Calls Tryd.prog 95 #[.pointer (some ⟨c, 0, none⟩), .agg #[.int .i64 k, .int .i64 a, .int .i64 t, .int .i64 l]] w fun x w' => Died 4 x ∧ Below w.heap.size w w' := by
  have lc := lt_cell K.c2
  have nc : c ≠ w.heap.size := by omega
  have nc' := nc.symm
  have K2 := K.c2
  have K5 := K.c5
  have HP := Lib.hid (KP.alloc (.cells #[.int .i64 k, .int .i64 a, .int .i64 t, .int .i64 l] 71))
  clear K KP
  have h1 : 1 ≤ k := by omega
  have h2 : decide (k ≤ 4) = false := decide_eq_false (by omega)
  go_enter Tryd.func95, Tryd.ntmps95
  go_wp2_with (first
    | (go_at_call 91; (with_reducible refine (must_bad (c := c) _ _ ?rd).mono ?_); (case rd => with_reducible (first | exact HP.out | exact HP.out.drewN _ | exact HP.out.drew)); rintro x w3 ⟨⟨b0, a0, rfl⟩, hb3⟩; have HB3 := Lib.hid hb3; clear hb3))
  refine ⟨rfl, ⟨_, _, rfl⟩, Below.trans ?_ (HB3.out.mono ?_)⟩
  · repeat' (first | with_reducible exact Below.refl _ _ | with_reducible refine Below.drew ?_ | with_reducible refine drewN_below ?_ _ | with_reducible refine Below.alloc ?_ ?_ _ | with_reducible exact Nat.le_refl _ | (simp; done))
  · simp

set_option maxRecDepth 100000 in
set_option maxHeartbeats 1000000 in
theorem endx_2_a (a t l : Int) (hx : ¬ inR a U.regs) (K : Ck w c U Av cv Ab cb) (KP : CkP w c) (hbl : U.blocks.length ≤ 2000) :
    Calls Tryd.prog 95 #[.pointer (some ⟨c, 0, none⟩), .agg #[.int .i64 2, .int .i64 a, .int .i64 t, .int .i64 l]] w fun x w' => Died 2 x ∧ Below w.heap.size w w' := by
  have lc := lt_cell K.c2
  have nc : c ≠ w.heap.size := by omega
  have nc' := nc.symm
  have K2 := K.c2
  have K5 := K.c5
  have HP := Lib.hid (KP.alloc (.cells #[.int .i64 2, .int .i64 a, .int .i64 t, .int .i64 l] 71))
  clear K KP
  have HX := Lib.hid hx
  clear hx
  go_enter Tryd.func95, Tryd.ntmps95
  go_wp2_with (first
    | (go_at_call 91; (with_reducible refine (must_ok _ _ _).mono ?_); rintro x w3 ⟨rfl, rfl⟩))
  go_quiet (fail)
  go_wp2_with (first
    | (go_at_call 112; (with_reducible refine (reg_bad (U := U) _ HX.out ?rc ?rd).mono ?_); (case rc => first | exact cellA K2 | exact (cellD _ (cellA K2)) | (simp [*]; done)); (case rd => with_reducible (first | exact HP.out | exact HP.out.drewN _)); rintro x w3 ⟨⟨b0, a0, rfl⟩, hb3⟩; have HB3 := Lib.hid hb3; clear hb3))
  refine ⟨rfl, ⟨_, _, rfl⟩, Below.trans ?_ (HB3.out.mono ?_)⟩
  · repeat' (first | with_reducible exact Below.refl _ _ | with_reducible refine Below.drew ?_ | with_reducible refine drewN_below ?_ _ | with_reducible refine Below.alloc ?_ ?_ _ | with_reducible exact Nat.le_refl _ | (simp; done))
  · simp

set_option maxRecDepth 100000 in
set_option maxHeartbeats 1000000 in
theorem endx_3_a (a t l : Int) (hx : ¬ inR a U.regs) (K : Ck w c U Av cv Ab cb) (KP : CkP w c) (hbl : U.blocks.length ≤ 2000) :
    Calls Tryd.prog 95 #[.pointer (some ⟨c, 0, none⟩), .agg #[.int .i64 3, .int .i64 a, .int .i64 t, .int .i64 l]] w fun x w' => Died 2 x ∧ Below w.heap.size w w' := by
  have lc := lt_cell K.c2
  have nc : c ≠ w.heap.size := by omega
  have nc' := nc.symm
  have K2 := K.c2
  have K5 := K.c5
  have HP := Lib.hid (KP.alloc (.cells #[.int .i64 3, .int .i64 a, .int .i64 t, .int .i64 l] 71))
  clear K KP
  have HX := Lib.hid hx
  clear hx
  go_enter Tryd.func95, Tryd.ntmps95
  go_wp2_with (first
    | (go_at_call 91; (with_reducible refine (must_ok _ _ _).mono ?_); rintro x w3 ⟨rfl, rfl⟩))
  go_quiet (fail)
  go_wp2_with (first
    | (go_at_call 112; (with_reducible refine (reg_bad (U := U) _ HX.out ?rc ?rd).mono ?_); (case rc => first | exact cellA K2 | exact (cellD _ (cellA K2)) | (simp [*]; done)); (case rd => with_reducible (first | exact HP.out | exact HP.out.drewN _)); rintro x w3 ⟨⟨b0, a0, rfl⟩, hb3⟩; have HB3 := Lib.hid hb3; clear hb3))
  refine ⟨rfl, ⟨_, _, rfl⟩, Below.trans ?_ (HB3.out.mono ?_)⟩
  · repeat' (first | with_reducible exact Below.refl _ _ | with_reducible refine Below.drew ?_ | with_reducible refine drewN_below ?_ _ | with_reducible refine Below.alloc ?_ ?_ _ | with_reducible exact Nat.le_refl _ | (simp; done))
  · simp

set_option maxRecDepth 100000 in
set_option maxHeartbeats 1000000 in
theorem endx_4_a (a t l : Int) (hx : ¬ inR a U.regs) (K : Ck w c U Av cv Ab cb) (KP : CkP w c) (hbl : U.blocks.length ≤ 2000) :
    Calls Tryd.prog 95 #[.pointer (some ⟨c, 0, none⟩), .agg #[.int .i64 4, .int .i64 a, .int .i64 t, .int .i64 l]] w fun x w' => Died 2 x ∧ Below w.heap.size w w' := by
  have lc := lt_cell K.c2
  have nc : c ≠ w.heap.size := by omega
  have nc' := nc.symm
  have K2 := K.c2
  have K5 := K.c5
  have HP := Lib.hid (KP.alloc (.cells #[.int .i64 4, .int .i64 a, .int .i64 t, .int .i64 l] 71))
  clear K KP
  have HX := Lib.hid hx
  clear hx
  go_enter Tryd.func95, Tryd.ntmps95
  go_wp2_with (first
    | (go_at_call 91; (with_reducible refine (must_ok _ _ _).mono ?_); rintro x w3 ⟨rfl, rfl⟩))
  go_quiet (fail)
  go_wp2_with (first
    | (go_at_call 112; (with_reducible refine (reg_bad (U := U) _ HX.out ?rc ?rd).mono ?_); (case rc => first | exact cellA K2 | exact (cellD _ (cellA K2)) | (simp [*]; done)); (case rd => with_reducible (first | exact HP.out | exact HP.out.drewN _)); rintro x w3 ⟨⟨b0, a0, rfl⟩, hb3⟩; have HB3 := Lib.hid hb3; clear hb3))
  refine ⟨rfl, ⟨_, _, rfl⟩, Below.trans ?_ (HB3.out.mono ?_)⟩
  · repeat' (first | with_reducible exact Below.refl _ _ | with_reducible refine Below.drew ?_ | with_reducible refine drewN_below ?_ _ | with_reducible refine Below.alloc ?_ ?_ _ | with_reducible exact Nat.le_refl _ | (simp; done))
  · simp

set_option maxRecDepth 100000 in
set_option maxHeartbeats 1000000 in
theorem endx_1_t (a t l : Int) (hx : ¬ inR t U.blocks.length) (K : Ck w c U Av cv Ab cb) (KP : CkP w c) (hbl : U.blocks.length ≤ 2000) :
    Calls Tryd.prog 95 #[.pointer (some ⟨c, 0, none⟩), .agg #[.int .i64 1, .int .i64 a, .int .i64 t, .int .i64 l]] w fun x w' => Died 5 x ∧ Below w.heap.size w w' := by
  have lc := lt_cell K.c2
  have nc : c ≠ w.heap.size := by omega
  have nc' := nc.symm
  have K2 := K.c2
  have K5 := K.c5
  have HP := Lib.hid (KP.alloc (.cells #[.int .i64 1, .int .i64 a, .int .i64 t, .int .i64 l] 71))
  clear K KP
  have HX := Lib.hid hx
  have HA : Hid True := Lib.hid trivial
  clear hx
  go_enter Tryd.func95, Tryd.ntmps95
  go_wp2_with (first
    | (go_at_call 91; (with_reducible refine (must_ok _ _ _).mono ?_); rintro x w3 ⟨rfl, rfl⟩))
  go_quiet (fail)
  obtain ⟨W, hW⟩ : ∃ W, W = (w.alloc (.cells #[.int .i64 1, .int .i64 a, .int .i64 t, .int .i64 l] 71)).drewN nq := ⟨_, rfl⟩
  rw [← hW]
  have B : Blk W w.heap.size 71 #[.int .i64 1, .int .i64 a, .int .i64 t, .int .i64 l] := by rw [hW]; exact (blk_new w rfl _ _).drewN nq
  have z0 : W.cell? ⟨w.heap.size, 0, none⟩ = some (.int .i64 1) := (B.cell 0).trans rfl
  have z1 : W.cell? ⟨w.heap.size, 1, none⟩ = some (.int .i64 a) := (B.cell 1).trans rfl
  have z2 : W.cell? ⟨w.heap.size, 2, none⟩ = some (.int .i64 t) := (B.cell 2).trans rfl
  have z3 : W.cell? ⟨w.heap.size, 3, none⟩ = some (.int .i64 l) := (B.cell 3).trans rfl
  have y2 : W.cell? ⟨c, 2, none⟩ = some (.int .i64 U.regs) := by rw [hW]; exact cellD _ (cellA K2)
  have y5 : W.cell? ⟨c, 5, none⟩ = some (.slice Ab U.blocks.length cb) := by rw [hW]; exact cellD _ (cellA K5)
  have HP2 : Hid (CkP W c) := Lib.hid (by rw [hW]; exact HP.out.drewN _)
  have HW : Hid (Below w.heap.size w W) := Lib.hid (by rw [hW]; exact ((Below.refl _ w).alloc (Nat.le_refl _) _).trans ((drewN_bel _ _).mono (by simp)))
  clear B hW nq
  go_wp2_with (first | (go_at_call 112; (with_reducible refine (reg_ok (U := U) _ _ ?rg ?rc).mono ?_); (case rg => first | exact .inl rfl | exact .inr HA.out); (case rc => exact y2); rintro x w3 ⟨rfl, rfl⟩) | (go_at_call 91; (with_reducible refine (must_ok _ _ _).mono ?_); rintro x w3 ⟨rfl, rfl⟩))
  go_still_tail 14, (by kernel_rfl)
  still_call ((within_no _ _ HX.out _).mono fun _ _ h => ⟨h.1, h.2.symm⟩)
  repeat still_step
  refine wpStill_nil ?_
  change wpList _ _ _ _ _ W.drew
  go_wp2_with (go_at_call 91; (with_reducible refine (must_bad (c := c) _ _ HP2.out.drew).mono ?_); rintro x w3 ⟨⟨b0, a0, rfl⟩, hb3⟩; have HB3 := Lib.hid hb3; clear hb3)
  exact ⟨rfl, ⟨_, _, rfl⟩, (bel_drew HW.out).trans (HB3.out.mono HW.out.size)⟩

set_option maxRecDepth 100000 in
set_option maxHeartbeats 1000000 in
theorem endx_2_t (a t l : Int) (ha : inR a U.regs) (hx : ¬ inR t U.blocks.length) (K : Ck w c U Av cv Ab cb) (KP : CkP w c) (hbl : U.blocks.length ≤ 2000) :
    Calls Tryd.prog 95 #[.pointer (some ⟨c, 0, none⟩), .agg #[.int .i64 2, .int .i64 a, .int .i64 t, .int .i64 l]] w fun x w' => Died 5 x ∧ Below w.heap.size w w' := by
  have lc := lt_cell K.c2
  have nc : c ≠ w.heap.size := by omega
  have nc' := nc.symm
  have K2 := K.c2
  have K5 := K.c5
  have HP := Lib.hid (KP.alloc (.cells #[.int .i64 2, .int .i64 a, .int .i64 t, .int .i64 l] 71))
  clear K KP
  have HX := Lib.hid hx
  have HA := Lib.hid ha
  clear hx ha
  go_enter Tryd.func95, Tryd.ntmps95
  go_wp2_with (first
    | (go_at_call 91; (with_reducible refine (must_ok _ _ _).mono ?_); rintro x w3 ⟨rfl, rfl⟩))
  go_quiet (fail)
  obtain ⟨W, hW⟩ : ∃ W, W = (w.alloc (.cells #[.int .i64 2, .int .i64 a, .int .i64 t, .int .i64 l] 71)).drewN nq := ⟨_, rfl⟩
  rw [← hW]
  have B : Blk W w.heap.size 71 #[.int .i64 2, .int .i64 a, .int .i64 t, .int .i64 l] := by rw [hW]; exact (blk_new w rfl _ _).drewN nq
  have z0 : W.cell? ⟨w.heap.size, 0, none⟩ = some (.int .i64 2) := (B.cell 0).trans rfl
  have z1 : W.cell? ⟨w.heap.size, 1, none⟩ = some (.int .i64 a) := (B.cell 1).trans rfl
  have z2 : W.cell? ⟨w.heap.size, 2, none⟩ = some (.int .i64 t) := (B.cell 2).trans rfl
  have z3 : W.cell? ⟨w.heap.size, 3, none⟩ = some (.int .i64 l) := (B.cell 3).trans rfl
  have y2 : W.cell? ⟨c, 2, none⟩ = some (.int .i64 U.regs) := by rw [hW]; exact cellD _ (cellA K2)
  have y5 : W.cell? ⟨c, 5, none⟩ = some (.slice Ab U.blocks.length cb) := by rw [hW]; exact cellD _ (cellA K5)
  have HP2 : Hid (CkP W c) := Lib.hid (by rw [hW]; exact HP.out.drewN _)
  have HW : Hid (Below w.heap.size w W) := Lib.hid (by rw [hW]; exact ((Below.refl _ w).alloc (Nat.le_refl _) _).trans ((drewN_bel _ _).mono (by simp)))
  clear B hW nq
  go_wp2_with (first | (go_at_call 112; (with_reducible refine (reg_ok (U := U) _ _ ?rg ?rc).mono ?_); (case rg => first | exact .inl rfl | exact .inr HA.out); (case rc => exact y2); rintro x w3 ⟨rfl, rfl⟩) | (go_at_call 91; (with_reducible refine (must_ok _ _ _).mono ?_); rintro x w3 ⟨rfl, rfl⟩))
  go_still_tail 14, (by kernel_rfl)
  still_call ((within_no _ _ HX.out _).mono fun _ _ h => ⟨h.1, h.2.symm⟩)
  repeat still_step
  refine wpStill_nil ?_
  change wpList _ _ _ _ _ W.drew
  go_wp2_with (go_at_call 91; (with_reducible refine (must_bad (c := c) _ _ HP2.out.drew).mono ?_); rintro x w3 ⟨⟨b0, a0, rfl⟩, hb3⟩; have HB3 := Lib.hid hb3; clear hb3)
  exact ⟨rfl, ⟨_, _, rfl⟩, (bel_drew HW.out).trans (HB3.out.mono HW.out.size)⟩

set_option maxRecDepth 100000 in
set_option maxHeartbeats 1000000 in
theorem endx_2_l (a t l : Int) (ha : inR a U.regs) (ht : inR t U.blocks.length) (hx : ¬ inR l U.blocks.length) (K : Ck w c U Av cv Ab cb) (KP : CkP w c) (hbl : U.blocks.length ≤ 2000) :
    Calls Tryd.prog 95 #[.pointer (some ⟨c, 0, none⟩), .agg #[.int .i64 2, .int .i64 a, .int .i64 t, .int .i64 l]] w fun x w' => Died 5 x ∧ Below w.heap.size w w' := by
  have lc := lt_cell K.c2
  have nc : c ≠ w.heap.size := by omega
  have nc' := nc.symm
  have K2 := K.c2
  have K5 := K.c5
  have HP := Lib.hid (KP.alloc (.cells #[.int .i64 2, .int .i64 a, .int .i64 t, .int .i64 l] 71))
  clear K KP
  have HX := Lib.hid hx
  have HA := Lib.hid ha
  have HT := Lib.hid ht
  have HL : Hid (inR t U.blocks.length) := HT
  clear hx ha ht
  go_enter Tryd.func95, Tryd.ntmps95
  go_wp2_with (first
    | (go_at_call 91; (with_reducible refine (must_ok _ _ _).mono ?_); rintro x w3 ⟨rfl, rfl⟩))
  go_quiet (fail)
  obtain ⟨W, hW⟩ : ∃ W, W = (w.alloc (.cells #[.int .i64 2, .int .i64 a, .int .i64 t, .int .i64 l] 71)).drewN nq := ⟨_, rfl⟩
  rw [← hW]
  have B : Blk W w.heap.size 71 #[.int .i64 2, .int .i64 a, .int .i64 t, .int .i64 l] := by rw [hW]; exact (blk_new w rfl _ _).drewN nq
  have z0 : W.cell? ⟨w.heap.size, 0, none⟩ = some (.int .i64 2) := (B.cell 0).trans rfl
  have z1 : W.cell? ⟨w.heap.size, 1, none⟩ = some (.int .i64 a) := (B.cell 1).trans rfl
  have z2 : W.cell? ⟨w.heap.size, 2, none⟩ = some (.int .i64 t) := (B.cell 2).trans rfl
  have z3 : W.cell? ⟨w.heap.size, 3, none⟩ = some (.int .i64 l) := (B.cell 3).trans rfl
  have y2 : W.cell? ⟨c, 2, none⟩ = some (.int .i64 U.regs) := by rw [hW]; exact cellD _ (cellA K2)
  have y5 : W.cell? ⟨c, 5, none⟩ = some (.slice Ab U.blocks.length cb) := by rw [hW]; exact cellD _ (cellA K5)
  have HP2 : Hid (CkP W c) := Lib.hid (by rw [hW]; exact HP.out.drewN _)
  have HW : Hid (Below w.heap.size w W) := Lib.hid (by rw [hW]; exact ((Below.refl _ w).alloc (Nat.le_refl _) _).trans ((drewN_bel _ _).mono (by simp)))
  clear B hW nq
  go_wp2_with (first | (go_at_call 112; (with_reducible refine (reg_ok (U := U) _ _ ?rg ?rc).mono ?_); (case rg => first | exact .inl rfl | exact .inr HA.out); (case rc => exact y2); rintro x w3 ⟨rfl, rfl⟩) | (go_at_call 91; (with_reducible refine (must_ok _ _ _).mono ?_); rintro x w3 ⟨rfl, rfl⟩))
  go_quiet (first | (go_at_call 70; exact quietS (within_yes _ _ HT.out.1 HT.out.2 _)) | (go_at_call 91; exact quietS (must_ok _ _ _)))
  go_wp2
  obtain ⟨W2, hW2⟩ : ∃ W2, W2 = W.drewN nq := ⟨_, rfl⟩
  rw [← hW2]
  have z0 : W2.cell? ⟨w.heap.size, 0, none⟩ = some (.int .i64 2) := by rw [hW2]; exact z0
  have z1 : W2.cell? ⟨w.heap.size, 1, none⟩ = some (.int .i64 a) := by rw [hW2]; exact z1
  have z2 : W2.cell? ⟨w.heap.size, 2, none⟩ = some (.int .i64 t) := by rw [hW2]; exact z2
  have z3 : W2.cell? ⟨w.heap.size, 3, none⟩ = some (.int .i64 l) := by rw [hW2]; exact z3
  have y5 : W2.cell? ⟨c, 5, none⟩ = some (.slice Ab U.blocks.length cb) := by rw [hW2]; exact y5
  have HP3 : Hid (CkP W2 c) := Lib.hid (by rw [hW2]; exact HP2.out.drewN _)
  have HW3 : Hid (Below w.heap.size w W2) := Lib.hid (by rw [hW2]; exact HW.out.trans ((drewN_bel _ _).mono HW.out.size))
  clear hW2
  go_still_tail 14, (by kernel_rfl)
  still_call ((within_no _ _ HX.out _).mono fun _ _ h => ⟨h.1, h.2.symm⟩)
  repeat still_step
  refine wpStill_nil ?_
  change wpList _ _ _ _ _ W2.drew
  go_wp2_with (go_at_call 91; (with_reducible refine (must_bad (c := c) _ _ HP3.out.drew).mono ?_); rintro x w3 ⟨⟨b0, a0, rfl⟩, hb3⟩; have HB3 := Lib.hid hb3; clear hb3)
  exact ⟨rfl, ⟨_, _, rfl⟩, (bel_drew HW3.out).trans (HB3.out.mono HW3.out.size)⟩

set_option maxRecDepth 100000 in
set_option maxHeartbeats 1000000 in
theorem endx_1_ia (a t l : Int) (ht : inR t U.blocks.length) (hx : (a == 0) = false) (K : Ck w c U Av cv Ab cb) (KP : CkP w c) (hbl : U.blocks.length ≤ 2000) :
    Calls Tryd.prog 95 #[.pointer (some ⟨c, 0, none⟩), .agg #[.int .i64 1, .int .i64 a, .int .i64 t, .int .i64 l]] w fun x w' => Died 4 x ∧ Below w.heap.size w w' := by
  have lc := lt_cell K.c2
  have nc : c ≠ w.heap.size := by omega
  have nc' := nc.symm
  have K2 := K.c2
  have K5 := K.c5
  have HP := Lib.hid (KP.alloc (.cells #[.int .i64 1, .int .i64 a, .int .i64 t, .int .i64 l] 71))
  clear K KP
  have HT := Lib.hid ht
  have HL : Hid (inR t U.blocks.length) := HT
  have HA : Hid True := Lib.hid trivial
  clear ht
  have hx2 : (a != 0) = true := by simpa using hx
  go_enter Tryd.func95, Tryd.ntmps95
  go_wp2_with (first
    | (go_at_call 91; (with_reducible refine (must_ok _ _ _).mono ?_); rintro x w3 ⟨rfl, rfl⟩))
  go_quiet (fail)
  go_wp2_with (first
    | (go_at_call 112; (with_reducible refine (reg_ok (U := U) _ _ ?rg ?rc).mono ?_); (case rg => first | exact .inl rfl | exact .inr HA.out); (case rc => first | exact cellA K2 | exact (cellD _ (cellA K2)) | (simp [*]; done)); rintro x w3 ⟨rfl, rfl⟩)
    | (go_at_call 91; (with_reducible refine (must_ok _ _ _).mono ?_); rintro x w3 ⟨rfl, rfl⟩))
  go_quiet (first | (go_at_call 70; exact quietL (within_yes _ _ HT.out.1 HT.out.2 _)) | (go_at_call 91; exact quietL (must_ok _ _ _)))
  go_wp2
  go_quiet (first | (go_at_call 91; exact quietL (must_ok _ _ _)))
  go_wp2_with (first
    | (go_at_call 91; (with_reducible refine (must_ok _ _ _).mono ?_); rintro x w3 ⟨rfl, rfl⟩)
    | (go_at_call 91; (with_reducible refine (must_bad (c := c) _ _ ?rd).mono ?_); (case rd => with_reducible (first | exact HP.out | exact HP.out.drewN _ | exact HP.out.drew)); rintro x w3 ⟨⟨b0, a0, rfl⟩, hb3⟩; have HB3 := Lib.hid hb3; clear hb3))
  refine ⟨rfl, ⟨_, _, rfl⟩, Below.trans ?_ (HB3.out.mono ?_)⟩
  · repeat' (first | with_reducible exact Below.refl _ _ | with_reducible refine Below.drew ?_ | with_reducible refine drewN_below ?_ _ | with_reducible refine Below.alloc ?_ ?_ _ | with_reducible exact Nat.le_refl _ | (simp; done))
  · simp

set_option maxRecDepth 100000 in
set_option maxHeartbeats 1000000 in
theorem endx_1_il (t l : Int) (ht : inR t U.blocks.length) (hx : (l == 0) = false) (K : Ck w c U Av cv Ab cb) (KP : CkP w c) (hbl : U.blocks.length ≤ 2000) :
    Calls Tryd.prog 95 #[.pointer (some ⟨c, 0, none⟩), .agg #[.int .i64 1, .int .i64 0, .int .i64 t, .int .i64 l]] w fun x w' => Died 4 x ∧ Below w.heap.size w w' := by
  have lc := lt_cell K.c2
  have nc : c ≠ w.heap.size := by omega
  have nc' := nc.symm
  have K2 := K.c2
  have K5 := K.c5
  have HP := Lib.hid (KP.alloc (.cells #[.int .i64 1, .int .i64 0, .int .i64 t, .int .i64 l] 71))
  clear K KP
  have HT := Lib.hid ht
  have HL : Hid (inR t U.blocks.length) := HT
  have HA : Hid True := Lib.hid trivial
  clear ht
  have hx2 : (l != 0) = true := by simpa using hx
  go_enter Tryd.func95, Tryd.ntmps95
  go_wp2_with (first
    | (go_at_call 91; (with_reducible refine (must_ok _ _ _).mono ?_); rintro x w3 ⟨rfl, rfl⟩))
  go_quiet (fail)
  go_wp2_with (first
    | (go_at_call 112; (with_reducible refine (reg_ok (U := U) _ _ ?rg ?rc).mono ?_); (case rg => first | exact .inl rfl | exact .inr HA.out); (case rc => first | exact cellA K2 | exact (cellD _ (cellA K2)) | (simp [*]; done)); rintro x w3 ⟨rfl, rfl⟩)
    | (go_at_call 91; (with_reducible refine (must_ok _ _ _).mono ?_); rintro x w3 ⟨rfl, rfl⟩))
  go_quiet (first | (go_at_call 70; exact quietL (within_yes _ _ HT.out.1 HT.out.2 _)) | (go_at_call 91; exact quietL (must_ok _ _ _)))
  go_wp2
  go_quiet (first | (go_at_call 91; exact quietL (must_ok _ _ _)))
  go_wp2_with (first
    | (go_at_call 91; (with_reducible refine (must_ok _ _ _).mono ?_); rintro x w3 ⟨rfl, rfl⟩)
    | (go_at_call 91; (with_reducible refine (must_bad (c := c) _ _ ?rd).mono ?_); (case rd => with_reducible (first | exact HP.out | exact HP.out.drewN _ | exact HP.out.drew)); rintro x w3 ⟨⟨b0, a0, rfl⟩, hb3⟩; have HB3 := Lib.hid hb3; clear hb3))
  refine ⟨rfl, ⟨_, _, rfl⟩, Below.trans ?_ (HB3.out.mono ?_)⟩
  · repeat' (first | with_reducible exact Below.refl _ _ | with_reducible refine Below.drew ?_ | with_reducible refine drewN_below ?_ _ | with_reducible refine Below.alloc ?_ ?_ _ | with_reducible exact Nat.le_refl _ | (simp; done))
  · simp

set_option maxRecDepth 100000 in
set_option maxHeartbeats 1000000 in
theorem endx_3_it (a t l : Int) (ha : inR a U.regs) (hx : (t == 0) = false) (K : Ck w c U Av cv Ab cb) (KP : CkP w c) (hbl : U.blocks.length ≤ 2000) :
    Calls Tryd.prog 95 #[.pointer (some ⟨c, 0, none⟩), .agg #[.int .i64 3, .int .i64 a, .int .i64 t, .int .i64 l]] w fun x w' => Died 4 x ∧ Below w.heap.size w w' := by
  have lc := lt_cell K.c2
  have nc : c ≠ w.heap.size := by omega
  have nc' := nc.symm
  have K2 := K.c2
  have K5 := K.c5
  have HP := Lib.hid (KP.alloc (.cells #[.int .i64 3, .int .i64 a, .int .i64 t, .int .i64 l] 71))
  clear K KP
  have HA := Lib.hid ha
  have HT : Hid (0 ≤ 0 ∧ 0 ≤ 0) := Lib.hid ⟨Nat.le_refl _, Nat.le_refl _⟩
  have HL := HT
  clear ha
  have hx2 : (t != 0) = true := by simpa using hx
  go_enter Tryd.func95, Tryd.ntmps95
  go_wp2_with (first
    | (go_at_call 91; (with_reducible refine (must_ok _ _ _).mono ?_); rintro x w3 ⟨rfl, rfl⟩))
  go_quiet (fail)
  go_wp2_with (first
    | (go_at_call 112; (with_reducible refine (reg_ok (U := U) _ _ ?rg ?rc).mono ?_); (case rg => first | exact .inl rfl | exact .inr HA.out); (case rc => first | exact cellA K2 | exact (cellD _ (cellA K2)) | (simp [*]; done)); rintro x w3 ⟨rfl, rfl⟩)
    | (go_at_call 91; (with_reducible refine (must_ok _ _ _).mono ?_); rintro x w3 ⟨rfl, rfl⟩))
  go_quiet (first | (go_at_call 91; exact quietL (must_ok _ _ _)))
  go_wp2
  go_quiet (first | (go_at_call 91; exact quietL (must_ok _ _ _)))
  go_wp2_with (first
    | (go_at_call 91; (with_reducible refine (must_ok _ _ _).mono ?_); rintro x w3 ⟨rfl, rfl⟩)
    | (go_at_call 91; (with_reducible refine (must_bad (c := c) _ _ ?rd).mono ?_); (case rd => with_reducible (first | exact HP.out | exact HP.out.drewN _ | exact HP.out.drew)); rintro x w3 ⟨⟨b0, a0, rfl⟩, hb3⟩; have HB3 := Lib.hid hb3; clear hb3))
  refine ⟨rfl, ⟨_, _, rfl⟩, Below.trans ?_ (HB3.out.mono ?_)⟩
  · repeat' (first | with_reducible exact Below.refl _ _ | with_reducible refine Below.drew ?_ | with_reducible refine drewN_below ?_ _ | with_reducible refine Below.alloc ?_ ?_ _ | with_reducible exact Nat.le_refl _ | (simp; done))
  · simp

set_option maxRecDepth 100000 in
set_option maxHeartbeats 1000000 in
theorem endx_3_il (a l : Int) (ha : inR a U.regs) (hx : (l == 0) = false) (K : Ck w c U Av cv Ab cb) (KP : CkP w c) (hbl : U.blocks.length ≤ 2000) :
    Calls Tryd.prog 95 #[.pointer (some ⟨c, 0, none⟩), .agg #[.int .i64 3, .int .i64 a, .int .i64 0, .int .i64 l]] w fun x w' => Died 4 x ∧ Below w.heap.size w w' := by
  have lc := lt_cell K.c2
  have nc : c ≠ w.heap.size := by omega
  have nc' := nc.symm
  have K2 := K.c2
  have K5 := K.c5
  have HP := Lib.hid (KP.alloc (.cells #[.int .i64 3, .int .i64 a, .int .i64 0, .int .i64 l] 71))
  clear K KP
  have HA := Lib.hid ha
  have HT : Hid (0 ≤ 0 ∧ 0 ≤ 0) := Lib.hid ⟨Nat.le_refl _, Nat.le_refl _⟩
  have HL := HT
  clear ha
  have hx2 : (l != 0) = true := by simpa using hx
  go_enter Tryd.func95, Tryd.ntmps95
  go_wp2_with (first
    | (go_at_call 91; (with_reducible refine (must_ok _ _ _).mono ?_); rintro x w3 ⟨rfl, rfl⟩))
  go_quiet (fail)
  go_wp2_with (first
    | (go_at_call 112; (with_reducible refine (reg_ok (U := U) _ _ ?rg ?rc).mono ?_); (case rg => first | exact .inl rfl | exact .inr HA.out); (case rc => first | exact cellA K2 | exact (cellD _ (cellA K2)) | (simp [*]; done)); rintro x w3 ⟨rfl, rfl⟩)
    | (go_at_call 91; (with_reducible refine (must_ok _ _ _).mono ?_); rintro x w3 ⟨rfl, rfl⟩))
  go_quiet (first | (go_at_call 91; exact quietL (must_ok _ _ _)))
  go_wp2
  go_quiet (first | (go_at_call 91; exact quietL (must_ok _ _ _)))
  go_wp2_with (first
    | (go_at_call 91; (with_reducible refine (must_ok _ _ _).mono ?_); rintro x w3 ⟨rfl, rfl⟩)
    | (go_at_call 91; (with_reducible refine (must_bad (c := c) _ _ ?rd).mono ?_); (case rd => with_reducible (first | exact HP.out | exact HP.out.drewN _ | exact HP.out.drew)); rintro x w3 ⟨⟨b0, a0, rfl⟩, hb3⟩; have HB3 := Lib.hid hb3; clear hb3))
  refine ⟨rfl, ⟨_, _, rfl⟩, Below.trans ?_ (HB3.out.mono ?_)⟩
  · repeat' (first | with_reducible exact Below.refl _ _ | with_reducible refine Below.drew ?_ | with_reducible refine drewN_below ?_ _ | with_reducible refine Below.alloc ?_ ?_ _ | with_reducible exact Nat.le_refl _ | (simp; done))
  · simp

set_option maxRecDepth 100000 in
set_option maxHeartbeats 1000000 in
theorem endx_4_it (a t l : Int) (ha : inR a U.regs) (hx : (t == 0) = false) (K : Ck w c U Av cv Ab cb) (KP : CkP w c) (hbl : U.blocks.length ≤ 2000) :
    Calls Tryd.prog 95 #[.pointer (some ⟨c, 0, none⟩), .agg #[.int .i64 4, .int .i64 a, .int .i64 t, .int .i64 l]] w fun x w' => Died 4 x ∧ Below w.heap.size w w' := by
  have lc := lt_cell K.c2
  have nc : c ≠ w.heap.size := by omega
  have nc' := nc.symm
  have K2 := K.c2
  have K5 := K.c5
  have HP := Lib.hid (KP.alloc (.cells #[.int .i64 4, .int .i64 a, .int .i64 t, .int .i64 l] 71))
  clear K KP
  have HA := Lib.hid ha
  have HT : Hid (0 ≤ 0 ∧ 0 ≤ 0) := Lib.hid ⟨Nat.le_refl _, Nat.le_refl _⟩
  have HL := HT
  clear ha
  have hx2 : (t != 0) = true := by simpa using hx
  go_enter Tryd.func95, Tryd.ntmps95
  go_wp2_with (first
    | (go_at_call 91; (with_reducible refine (must_ok _ _ _).mono ?_); rintro x w3 ⟨rfl, rfl⟩))
  go_quiet (fail)
  go_wp2_with (first
    | (go_at_call 112; (with_reducible refine (reg_ok (U := U) _ _ ?rg ?rc).mono ?_); (case rg => first | exact .inl rfl | exact .inr HA.out); (case rc => first | exact cellA K2 | exact (cellD _ (cellA K2)) | (simp [*]; done)); rintro x w3 ⟨rfl, rfl⟩)
    | (go_at_call 91; (with_reducible refine (must_ok _ _ _).mono ?_); rintro x w3 ⟨rfl, rfl⟩))
  go_quiet (first | (go_at_call 91; exact quietL (must_ok _ _ _)))
  go_wp2
  go_quiet (first | (go_at_call 91; exact quietL (must_ok _ _ _)))
  go_wp2_with (first
    | (go_at_call 91; (with_reducible refine (must_ok _ _ _).mono ?_); rintro x w3 ⟨rfl, rfl⟩)
    | (go_at_call 91; (with_reducible refine (must_bad (c := c) _ _ ?rd).mono ?_); (case rd => with_reducible (first | exact HP.out | exact HP.out.drewN _ | exact HP.out.drew)); rintro x w3 ⟨⟨b0, a0, rfl⟩, hb3⟩; have HB3 := Lib.hid hb3; clear hb3))
  refine ⟨rfl, ⟨_, _, rfl⟩, Below.trans ?_ (HB3.out.mono ?_)⟩
  · repeat' (first | with_reducible exact Below.refl _ _ | with_reducible refine Below.drew ?_ | with_reducible refine drewN_below ?_ _ | with_reducible refine Below.alloc ?_ ?_ _ | with_reducible exact Nat.le_refl _ | (simp; done))
  · simp

set_option maxRecDepth 100000 in
set_option maxHeartbeats 1000000 in
theorem endx_4_il (a l : Int) (ha : inR a U.regs) (hx : (l == 0) = false) (K : Ck w c U Av cv Ab cb) (KP : CkP w c) (hbl : U.blocks.length ≤ 2000) :
    Calls Tryd.prog 95 #[.pointer (some ⟨c, 0, none⟩), .agg #[.int .i64 4, .int .i64 a, .int .i64 0, .int .i64 l]] w fun x w' => Died 4 x ∧ Below w.heap.size w w' := by
  have lc := lt_cell K.c2
  have nc : c ≠ w.heap.size := by omega
  have nc' := nc.symm
  have K2 := K.c2
  have K5 := K.c5
  have HP := Lib.hid (KP.alloc (.cells #[.int .i64 4, .int .i64 a, .int .i64 0, .int .i64 l] 71))
  clear K KP
  have HA := Lib.hid ha
  have HT : Hid (0 ≤ 0 ∧ 0 ≤ 0) := Lib.hid ⟨Nat.le_refl _, Nat.le_refl _⟩
  have HL := HT
  clear ha
  have hx2 : (l != 0) = true := by simpa using hx
  go_enter Tryd.func95, Tryd.ntmps95
  go_wp2_with (first
    | (go_at_call 91; (with_reducible refine (must_ok _ _ _).mono ?_); rintro x w3 ⟨rfl, rfl⟩))
  go_quiet (fail)
  go_wp2_with (first
    | (go_at_call 112; (with_reducible refine (reg_ok (U := U) _ _ ?rg ?rc).mono ?_); (case rg => first | exact .inl rfl | exact .inr HA.out); (case rc => first | exact cellA K2 | exact (cellD _ (cellA K2)) | (simp [*]; done)); rintro x w3 ⟨rfl, rfl⟩)
    | (go_at_call 91; (with_reducible refine (must_ok _ _ _).mono ?_); rintro x w3 ⟨rfl, rfl⟩))
  go_quiet (first | (go_at_call 91; exact quietL (must_ok _ _ _)))
  go_wp2
  go_quiet (first | (go_at_call 91; exact quietL (must_ok _ _ _)))
  go_wp2_with (first
    | (go_at_call 91; (with_reducible refine (must_ok _ _ _).mono ?_); rintro x w3 ⟨rfl, rfl⟩)
    | (go_at_call 91; (with_reducible refine (must_bad (c := c) _ _ ?rd).mono ?_); (case rd => with_reducible (first | exact HP.out | exact HP.out.drewN _ | exact HP.out.drew)); rintro x w3 ⟨⟨b0, a0, rfl⟩, hb3⟩; have HB3 := Lib.hid hb3; clear hb3))
  refine ⟨rfl, ⟨_, _, rfl⟩, Below.trans ?_ (HB3.out.mono ?_)⟩
  · repeat' (first | with_reducible exact Below.refl _ _ | with_reducible refine Below.drew ?_ | with_reducible refine drewN_below ?_ _ | with_reducible refine Below.alloc ?_ ?_ _ | with_reducible exact Nat.le_refl _ | (simp; done))
  · simp

end Go.Proofs.YtfkjkdoloamakaaDoor
