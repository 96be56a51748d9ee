/- The checker of package code: what it says of right ends. -/
import Derived.Test.YtfkjkdoloamakaaDoorRv
namespace Go.Proofs.YtfkjkdoloamakaaDoor
open Go.RowKit
set_option linter.unusedVariables false
set_option linter.unusedSimpArgs false
variable {w : World} {c : Nat} {U : UnS} {Av Ab : Option Addr} {cv cb : Nat}
theorem quietL {P : Program} {f : FuncId} {args : Array Value} {w : World} {a n : Nat} {v : Value} (h : Calls P f args (w.drewN (a + n)) fun e w' => e = .returned v ∧ w.drewN (a + n) = w') :
    Calls P f args (w.drewN (a + n)) fun e w'' => e = .returned v ∧ ∃ m, w'' = w.drewN (a + m) := h.mono fun _ _ ⟨he, hm⟩ => ⟨he, n, hm.symm⟩
theorem cellD {W : World} (n : Nat) {a : Addr} {y : Value} (h : W.cell? a = some y) : (W.drewN n).cell? a = some y := h

set_option maxRecDepth 100000 in
set_option maxHeartbeats 1000000 in
theorem end_1 (t : Int) (ht : inR t U.blocks.length) (K : Ck w c U Av cv Ab cb) (hbl : U.blocks.length ≤ 2000) :
    Calls Tryd.prog 95 #[.pointer (some ⟨c, 0, none⟩), .agg #[.int .i64 1, .int .i64 0, .int .i64 t, .int .i64 0]] w fun x w' => x = .returned (.tuple #[]) ∧ Below w.heap.size w w' := by
  obtain ⟨t0, t1⟩ := ht
  have lc := lt_cell K.c2
  have nc : c ≠ w.heap.size := by omega
  have nc' := nc.symm
  have K2 := K.c2
  have K5 := K.c5
  clear K
  go_enter Tryd.func95, Tryd.ntmps95
  go_wp2_with (first
    | (go_at_call 91; refine (must_ok _ _ _).mono ?_; rintro x w3 ⟨rfl, rfl⟩))
  go_quiet (fail)
  go_wp2_with (first
    | (go_at_call 112; refine (reg_ok (U := U) _ _ ?rg ?rc).mono ?_; (case rg => exact .inl rfl); (case rc => first | exact cellA K2 | exact (cellD _ (cellA K2)) | (simp [*]; done)); rintro x w3 ⟨rfl, rfl⟩)
    | (go_at_call 91; refine (must_ok _ _ _).mono ?_; rintro x w3 ⟨rfl, rfl⟩))
  go_quiet (first | (go_at_call 70; exact quietL (within_yes _ _ t0 t1 _)) | (go_at_call 91; exact quietL (must_ok _ _ _)))
  go_wp2
  go_quiet (first | (go_at_call 70; exact quietL (within_yes _ _ rfl rfl _)) | (go_at_call 91; exact quietL (must_ok _ _ _)))
  go_wp2_with (first
    | (go_at_call 91; refine (must_ok _ _ _).mono ?_; rintro x w3 ⟨rfl, rfl⟩))
  first | go_end0 | refine bodyPost_ret (results_none rfl _ _ _) rfl ?_
  refine ⟨rfl, ?_⟩
  repeat' (first | exact Below.refl _ _ | with_reducible refine Below.drew ?_ | with_reducible refine drewN_below ?_ _ | with_reducible refine Below.alloc ?_ ?_ _ | exact Nat.le_refl _ | (simp; done))

set_option maxRecDepth 100000 in
set_option maxHeartbeats 1000000 in
theorem end_2 (a t l : Int) (ha : inR a U.regs) (ht : inR t U.blocks.length) (hl : inR l U.blocks.length) (K : Ck w c U Av cv Ab cb) (hbl : U.blocks.length ≤ 2000) :
    Calls Tryd.prog 95 #[.pointer (some ⟨c, 0, none⟩), .agg #[.int .i64 2, .int .i64 a, .int .i64 t, .int .i64 l]] w fun x w' => x = .returned (.tuple #[]) ∧ Below w.heap.size w w' := by
  obtain ⟨t0, t1⟩ := ht
  obtain ⟨l0, l1⟩ := hl
  have lc := lt_cell K.c2
  have nc : c ≠ w.heap.size := by omega
  have nc' := nc.symm
  have K2 := K.c2
  have K5 := K.c5
  clear K
  go_enter Tryd.func95, Tryd.ntmps95
  go_wp2_with (first
    | (go_at_call 91; refine (must_ok _ _ _).mono ?_; rintro x w3 ⟨rfl, rfl⟩))
  go_quiet (fail)
  go_wp2_with (first
    | (go_at_call 112; refine (reg_ok (U := U) _ _ ?rg ?rc).mono ?_; (case rg => exact .inr ha); (case rc => first | exact cellA K2 | exact (cellD _ (cellA K2)) | (simp [*]; done)); rintro x w3 ⟨rfl, rfl⟩)
    | (go_at_call 91; refine (must_ok _ _ _).mono ?_; rintro x w3 ⟨rfl, rfl⟩))
  go_quiet (first | (go_at_call 70; exact quietL (within_yes _ _ t0 t1 _)) | (go_at_call 91; exact quietL (must_ok _ _ _)))
  go_wp2
  go_quiet (first | (go_at_call 70; exact quietL (within_yes _ _ l0 l1 _)) | (go_at_call 91; exact quietL (must_ok _ _ _)))
  go_wp2_with (first
    | (go_at_call 91; refine (must_ok _ _ _).mono ?_; rintro x w3 ⟨rfl, rfl⟩))
  first | go_end0 | refine bodyPost_ret (results_none rfl _ _ _) rfl ?_
  refine ⟨rfl, ?_⟩
  repeat' (first | exact Below.refl _ _ | with_reducible refine Below.drew ?_ | with_reducible refine drewN_below ?_ _ | with_reducible refine Below.alloc ?_ ?_ _ | exact Nat.le_refl _ | (simp; done))

set_option maxRecDepth 100000 in
set_option maxHeartbeats 1000000 in
theorem end_3 (a : Int) (ha : inR a U.regs) (K : Ck w c U Av cv Ab cb) (hbl : U.blocks.length ≤ 2000) :
    Calls Tryd.prog 95 #[.pointer (some ⟨c, 0, none⟩), .agg #[.int .i64 3, .int .i64 a, .int .i64 0, .int .i64 0]] w fun x w' => x = .returned (.tuple #[]) ∧ Below w.heap.size w w' := by
  have lc := lt_cell K.c2
  have nc : c ≠ w.heap.size := by omega
  have nc' := nc.symm
  have K2 := K.c2
  have K5 := K.c5
  clear K
  go_enter Tryd.func95, Tryd.ntmps95
  go_wp2_with (first
    | (go_at_call 91; refine (must_ok _ _ _).mono ?_; rintro x w3 ⟨rfl, rfl⟩))
  go_quiet (fail)
  go_wp2_with (first
    | (go_at_call 112; refine (reg_ok (U := U) _ _ ?rg ?rc).mono ?_; (case rg => exact .inr ha); (case rc => first | exact cellA K2 | exact (cellD _ (cellA K2)) | (simp [*]; done)); rintro x w3 ⟨rfl, rfl⟩)
    | (go_at_call 91; refine (must_ok _ _ _).mono ?_; rintro x w3 ⟨rfl, rfl⟩))
  go_quiet (first | (go_at_call 70; exact quietL (within_yes _ _ rfl rfl _)) | (go_at_call 91; exact quietL (must_ok _ _ _)))
  go_wp2
  go_quiet (first | (go_at_call 70; exact quietL (within_yes _ _ rfl rfl _)) | (go_at_call 91; exact quietL (must_ok _ _ _)))
  go_wp2_with (first
    | (go_at_call 91; refine (must_ok _ _ _).mono ?_; rintro x w3 ⟨rfl, rfl⟩))
  first | go_end0 | refine bodyPost_ret (results_none rfl _ _ _) rfl ?_
  refine ⟨rfl, ?_⟩
  repeat' (first | exact Below.refl _ _ | with_reducible refine Below.drew ?_ | with_reducible refine drewN_below ?_ _ | with_reducible refine Below.alloc ?_ ?_ _ | exact Nat.le_refl _ | (simp; done))

set_option maxRecDepth 100000 in
set_option maxHeartbeats 1000000 in
theorem end_4 (a : Int) (ha : inR a U.regs) (K : Ck w c U Av cv Ab cb) (hbl : U.blocks.length ≤ 2000) :
    Calls Tryd.prog 95 #[.pointer (some ⟨c, 0, none⟩), .agg #[.int .i64 4, .int .i64 a, .int .i64 0, .int .i64 0]] w fun x w' => x = .returned (.tuple #[]) ∧ Below w.heap.size w w' := by
  have lc := lt_cell K.c2
  have nc : c ≠ w.heap.size := by omega
  have nc' := nc.symm
  have K2 := K.c2
  have K5 := K.c5
  clear K
  go_enter Tryd.func95, Tryd.ntmps95
  go_wp2_with (first
    | (go_at_call 91; refine (must_ok _ _ _).mono ?_; rintro x w3 ⟨rfl, rfl⟩))
  go_quiet (fail)
  go_wp2_with (first
    | (go_at_call 112; refine (reg_ok (U := U) _ _ ?rg ?rc).mono ?_; (case rg => exact .inr ha); (case rc => first | exact cellA K2 | exact (cellD _ (cellA K2)) | (simp [*]; done)); rintro x w3 ⟨rfl, rfl⟩)
    | (go_at_call 91; refine (must_ok _ _ _).mono ?_; rintro x w3 ⟨rfl, rfl⟩))
  go_quiet (first | (go_at_call 70; exact quietL (within_yes _ _ rfl rfl _)) | (go_at_call 91; exact quietL (must_ok _ _ _)))
  go_wp2
  go_quiet (first | (go_at_call 70; exact quietL (within_yes _ _ rfl rfl _)) | (go_at_call 91; exact quietL (must_ok _ _ _)))
  go_wp2_with (first
    | (go_at_call 91; refine (must_ok _ _ _).mono ?_; rintro x w3 ⟨rfl, rfl⟩))
  first | go_end0 | refine bodyPost_ret (results_none rfl _ _ _) rfl ?_
  refine ⟨rfl, ?_⟩
  repeat' (first | exact Below.refl _ _ | with_reducible refine Below.drew ?_ | with_reducible refine drewN_below ?_ _ | with_reducible refine Below.alloc ?_ ?_ _ | exact Nat.le_refl _ | (simp; done))

end Go.Proofs.YtfkjkdoloamakaaDoor
