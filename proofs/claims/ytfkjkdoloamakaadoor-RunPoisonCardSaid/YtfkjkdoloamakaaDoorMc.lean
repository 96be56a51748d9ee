import Derived.Test.YtfkjkdoloamakaaDoorRv
import Derived.Test.YtfkjkdoloamakaaDoorMb
import Derived.BigRegion
/- The checker of package code: what it says of right ends. -/
namespace Go.Proofs.YtfkjkdoloamakaaDoor
open Go.RowKit
set_option linter.unusedVariables false
set_option linter.unusedSimpArgs false
variable {w : World} {c : Nat} {U : UnS} {Av Ab : Option Addr} {cv cb : Nat}
theorem quietL {P : Program} {f : FuncId} {args : Array Value} {w : World} {a n : Nat} {v : Value} (h : Calls P f args (w.drewN (a + n)) fun e w' => e = .returned v ∧ w.drewN (a + n) = w') :
    Calls P f args (w.drewN (a + n)) fun e w'' => e = .returned v ∧ ∃ m, w'' = w.drewN (a + m) := h.mono fun _ _ ⟨he, hm⟩ => ⟨he, n, hm.symm⟩
theorem cellD {W : World} (n : Nat) {a : Addr} {y : Value} (h : W.cell? a = some y) : (W.drewN n).cell? a = some y := h

set_option maxRecDepth 100000 in
set_option maxHeartbeats 1000000 in
theorem end_1 (t : Int) (ht : inR t U.blocks.length) (K : Ck w c U Av cv Ab cb) (hbl : U.blocks.length ≤ 2000) :
    Calls Tryd.prog 95 #[.pointer (some ⟨c, 0, none⟩), .agg #[.int .i64 1, .int .i64 0, .int .i64 t, .int .i64 0]] w fun x w' => x = .returned (.tuple #[]) ∧ Below w.heap.size w w' := by
  obtain ⟨t0, t1⟩ := ht
  have lc := lt_cell K.c2
  have nc : c ≠ w.heap.size := by omega
  have nc' := nc.symm
  have K2 := K.c2
  have K5 := K.c5
  clear K
  go_enter Tryd.func95, Tryd.ntmps95
  go_wp2_with (first
    | (go_at_call 91; refine (must_ok _ _ _).mono ?_; rintro x w3 ⟨rfl, rfl⟩))
  go_quiet (fail)
  go_wp2_with (first
    | (go_at_call 112; refine (reg_ok (U := U) _ _ ?rg ?rc).mono ?_; (case rg => exact .inl rfl); (case rc => first | exact cellA K2 | exact (cellD _ (cellA K2)) | (simp [*]; done)); rintro x w3 ⟨rfl, rfl⟩)
    | (go_at_call 91; refine (must_ok _ _ _).mono ?_; rintro x w3 ⟨rfl, rfl⟩))
  go_quiet (first | (go_at_call 70; exact quietL (within_yes _ _ t0 t1 _)) | (go_at_call 91; exact quietL (must_ok _ _ _)))
  go_wp2
  go_quiet (first | (go_at_call 70; exact quietL (within_yes _ _ rfl rfl _)) | (go_at_call 91; exact quietL (must_ok _ _ _)))
  go_wp2_with (first
    | (go_at_call 91; refine (must_ok _ _ _).mono ?_; rintro x w3 ⟨rfl, rfl⟩))
  first | go_end0 | refine bodyPost_ret (results_none rfl _ _ _) rfl ?_
  refine ⟨rfl, ?_⟩
  repeat' (first | exact Below.refl _ _ | with_reducible refine Below.drew ?_ | with_reducible refine drewN_below ?_ _ | with_reducible refine Below.alloc ?_ ?_ _ | exact Nat.le_refl _ | (simp; done))

set_option maxRecDepth 100000 in
set_option maxHeartbeats 1000000 in
theorem end_2 (a t l : Int) (ha : inR a U.regs) (ht : inR t U.blocks.length) (hl : inR l U.blocks.length) (K : Ck w c U Av cv Ab cb) (hbl : U.blocks.length ≤ 2000) :
    Calls Tryd.prog 95 #[.pointer (some ⟨c, 0, none⟩), .agg #[.int .i64 2, .int .i64 a, .int .i64 t, .int .i64 l]] w fun x w' => x = .returned (.tuple #[]) ∧ Below w.heap.size w w' := by
  obtain ⟨t0, t1⟩ := ht
  obtain ⟨l0, l1⟩ := hl
  have lc := lt_cell K.c2
  have nc : c ≠ w.heap.size := by omega
  have nc' := nc.symm
  have K2 := K.c2
  have K5 := K.c5
  clear K
  go_enter Tryd.func95, Tryd.ntmps95
  go_wp2_with (first
    | (go_at_call 91; refine (must_ok _ _ _).mono ?_; rintro x w3 ⟨rfl, rfl⟩))
  go_quiet (fail)
  go_wp2_with (first
    | (go_at_call 112; refine (reg_ok (U := U) _ _ ?rg ?rc).mono ?_; (case rg => exact .inr ha); (case rc => first | exact cellA K2 | exact (cellD _ (cellA K2)) | (simp [*]; done)); rintro x w3 ⟨rfl, rfl⟩)
    | (go_at_call 91; refine (must_ok _ _ _).mono ?_; rintro x w3 ⟨rfl, rfl⟩))
  go_quiet (first | (go_at_call 70; exact quietL (within_yes _ _ t0 t1 _)) | (go_at_call 91; exact quietL (must_ok _ _ _)))
  go_wp2
  go_quiet (first | (go_at_call 70; exact quietL (within_yes _ _ l0 l1 _)) | (go_at_call 91; exact quietL (must_ok _ _ _)))
  go_wp2_with (first
    | (go_at_call 91; refine (must_ok _ _ _).mono ?_; rintro x w3 ⟨rfl, rfl⟩))
  first | go_end0 | refine bodyPost_ret (results_none rfl _ _ _) rfl ?_
  refine ⟨rfl, ?_⟩
  repeat' (first | exact Below.refl _ _ | with_reducible refine Below.drew ?_ | with_reducible refine drewN_below ?_ _ | with_reducible refine Below.alloc ?_ ?_ _ | exact Nat.le_refl _ | (simp; done))

set_option maxRecDepth 100000 in
set_option maxHeartbeats 1000000 in
theorem end_3 (a : Int) (ha : inR a U.regs) (K : Ck w c U Av cv Ab cb) (hbl : U.blocks.length ≤ 2000) :
    Calls Tryd.prog 95 #[.pointer (some ⟨c, 0, none⟩), .agg #[.int .i64 3, .int .i64 a, .int .i64 0, .int .i64 0]] w fun x w' => x = .returned (.tuple #[]) ∧ Below w.heap.size w w' := by
  have lc := lt_cell K.c2
  have nc : c ≠ w.heap.size := by omega
  have nc' := nc.symm
  have K2 := K.c2
  have K5 := K.c5
  clear K
  go_enter Tryd.func95, Tryd.ntmps95
  go_wp2_with (first
    | (go_at_call 91; refine (must_ok _ _ _).mono ?_; rintro x w3 ⟨rfl, rfl⟩))
  go_quiet (fail)
  go_wp2_with (first
    | (go_at_call 112; refine (reg_ok (U := U) _ _ ?rg ?rc).mono ?_; (case rg => exact .inr ha); (case rc => first | exact cellA K2 | exact (cellD _ (cellA K2)) | (simp [*]; done)); rintro x w3 ⟨rfl, rfl⟩)
    | (go_at_call 91; refine (must_ok _ _ _).mono ?_; rintro x w3 ⟨rfl, rfl⟩))
  go_quiet (first | (go_at_call 70; exact quietL (within_yes _ _ rfl rfl _)) | (go_at_call 91; exact quietL (must_ok _ _ _)))
  go_wp2
  go_quiet (first | (go_at_call 70; exact quietL (within_yes _ _ rfl rfl _)) | (go_at_call 91; exact quietL (must_ok _ _ _)))
  go_wp2_with (first
    | (go_at_call 91; refine (must_ok _ _ _).mono ?_; rintro x w3 ⟨rfl, rfl⟩))
  first | go_end0 | refine bodyPost_ret (results_none rfl _ _ _) rfl ?_
  refine ⟨rfl, ?_⟩
  repeat' (first | exact Below.refl _ _ | with_reducible refine Below.drew ?_ | with_reducible refine drewN_below ?_ _ | with_reducible refine Below.alloc ?_ ?_ _ | exact Nat.le_refl _ | (simp; done))

set_option maxRecDepth 100000 in
set_option maxHeartbeats 1000000 in
theorem end_4 (a : Int) (ha : inR a U.regs) (K : Ck w c U Av cv Ab cb) (hbl : U.blocks.length ≤ 2000) :
    Calls Tryd.prog 95 #[.pointer (some ⟨c, 0, none⟩), .agg #[.int .i64 4, .int .i64 a, .int .i64 0, .int .i64 0]] w fun x w' => x = .returned (.tuple #[]) ∧ Below w.heap.size w w' := by
  have lc := lt_cell K.c2
  have nc : c ≠ w.heap.size := by omega
  have nc' := nc.symm
  have K2 := K.c2
  have K5 := K.c5
  clear K
  go_enter Tryd.func95, Tryd.ntmps95
  go_wp2_with (first
    | (go_at_call 91; refine (must_ok _ _ _).mono ?_; rintro x w3 ⟨rfl, rfl⟩))
  go_quiet (fail)
  go_wp2_with (first
    | (go_at_call 112; refine (reg_ok (U := U) _ _ ?rg ?rc).mono ?_; (case rg => exact .inr ha); (case rc => first | exact cellA K2 | exact (cellD _ (cellA K2)) | (simp [*]; done)); rintro x w3 ⟨rfl, rfl⟩)
    | (go_at_call 91; refine (must_ok _ _ _).mono ?_; rintro x w3 ⟨rfl, rfl⟩))
  go_quiet (first | (go_at_call 70; exact quietL (within_yes _ _ rfl rfl _)) | (go_at_call 91; exact quietL (must_ok _ _ _)))
  go_wp2
  go_quiet (first | (go_at_call 70; exact quietL (within_yes _ _ rfl rfl _)) | (go_at_call 91; exact quietL (must_ok _ _ _)))
  go_wp2_with (first
    | (go_at_call 91; refine (must_ok _ _ _).mono ?_; rintro x w3 ⟨rfl, rfl⟩))
  first | go_end0 | refine bodyPost_ret (results_none rfl _ _ _) rfl ?_
  refine ⟨rfl, ?_⟩
  repeat' (first | exact Below.refl _ _ | with_reducible refine Below.drew ?_ | with_reducible refine drewN_below ?_ _ | with_reducible refine Below.alloc ?_ ?_ _ | exact Nat.le_refl _ | (simp; done))

end Go.Proofs.YtfkjkdoloamakaaDoor

/- The checker of package code: what it says of a right unit, first part: one operation, one end, the sizes. -/
namespace Go.Proofs.YtfkjkdoloamakaaDoor
open Go.RowKit
set_option linter.unusedVariables false
set_option linter.unusedSimpArgs false
variable {w : World} {c : Nat} {U : UnS} {Av Ab : Option Addr} {cv cb : Nat}

/-- a register that a kind uses, or not -/
def useR (U : UnS) (u m r : Int) : Prop := (bits .and .i64 u m ≠ 0 → inR r U.regs) ∧ (bits .and .i64 u m = 0 → r = 0)
structure OpFine (U : UnS) (o : OpI) : Prop where
  k1 : 1 ≤ o.k
  k2 : o.k ≤ 25
  d : useR U (usesK o.k) 1 o.d
  a : useR U (usesK o.k) 2 o.a
  b : useR U (usesK o.k) 4 o.b
  c : useR U (usesK o.k) 8 o.c
  g : o.g = -1 ∨ inR o.g U.regs
  n1 : bits .and .i64 (usesK o.k) 32 ≠ 0 → inR o.n U.sizes.length
  n2 : bits .and .i64 (usesK o.k) 64 ≠ 0 → inR o.n U.spill
  n3 : bits .and .i64 (usesK o.k) 128 ≠ 0 → inR o.n U.blocks.length
  n0 : bits .and .i64 (usesK o.k) 240 = 0 → o.n = 0
structure EdFine (U : UnS) (e : EdS) : Prop where
  k1 : 1 ≤ e.k
  k2 : e.k ≤ 4
  a : (e.k ≠ 1 → inR e.a U.regs) ∧ (e.k = 1 → e.a = 0)
  t : (e.k ≤ 2 → inR e.t U.blocks.length) ∧ (2 < e.k → e.t = 0)
  l : (e.k = 2 → inR e.l U.blocks.length) ∧ (e.k ≠ 2 → e.l = 0)

theorem opf_any (o : OpI) (h : OpFine U o) (K : Ck w c U Av cv Ab cb) (V : Env w) (hz : U.sizes.length ≤ 16) (hbl : U.blocks.length ≤ 2000) :
    Calls Tryd.prog 94 #[.pointer (some ⟨c, 0, none⟩), opV o] w fun x w' => x = .returned (.tuple #[]) ∧ Below w.heap.size w w' := by
  obtain ⟨k, d, a, b, r3, n, g⟩ := o
  obtain ⟨h1, h2, ⟨hd1, hd0⟩, ⟨ha1, ha0⟩, ⟨hb1, hb0⟩, ⟨hc1, hc0⟩, hg, hn1, hn2, hn3, hn0⟩ := h
  simp only at h1 h2 hd1 hd0 ha1 ha0 hb1 hb0 hc1 hc0 hg hn1 hn2 hn3 hn0
  have h' : k = 1 ∨ k = 2 ∨ k = 3 ∨ k = 4 ∨ k = 5 ∨ k = 6 ∨ k = 7 ∨ k = 8 ∨ k = 9 ∨ k = 10 ∨ k = 11 ∨ k = 12 ∨ k = 13 ∨ k = 14 ∨ k = 15 ∨ k = 16 ∨ k = 17 ∨ k = 18 ∨ k = 19 ∨ k = 20 ∨ k = 21 ∨ k = 22 ∨ k = 23 ∨ k = 24 ∨ k = 25 := by omega
  have c17 : usesK k = 17 → Calls Tryd.prog 94 #[.pointer (some ⟨c, 0, none⟩), opV ⟨k, d, a, b, r3, n, g⟩] w fun x w' => x = .returned (.tuple #[]) ∧ Below w.heap.size w w' := by
    intro hu; rw [hu] at hd1 hd0 ha1 ha0 hb1 hb0 hc1 hc0 hn1 hn2 hn3 hn0
    obtain rfl := ha0 (by decide); obtain rfl := hb0 (by decide); obtain rfl := hc0 (by decide)
    exact op_17 k d n g hu h1 h2 (hd1 (by decide)) hg K V hz hbl
  have c3 : usesK k = 3 → Calls Tryd.prog 94 #[.pointer (some ⟨c, 0, none⟩), opV ⟨k, d, a, b, r3, n, g⟩] w fun x w' => x = .returned (.tuple #[]) ∧ Below w.heap.size w w' := by
    intro hu; rw [hu] at hd1 hd0 ha1 ha0 hb1 hb0 hc1 hc0 hn1 hn2 hn3 hn0
    obtain rfl := hb0 (by decide); obtain rfl := hc0 (by decide); obtain rfl := hn0 (by decide)
    exact op_3 k d a g hu h1 h2 (hd1 (by decide)) (ha1 (by decide)) hg K V hz hbl
  have c7 : usesK k = 7 → Calls Tryd.prog 94 #[.pointer (some ⟨c, 0, none⟩), opV ⟨k, d, a, b, r3, n, g⟩] w fun x w' => x = .returned (.tuple #[]) ∧ Below w.heap.size w w' := by
    intro hu; rw [hu] at hd1 hd0 ha1 ha0 hb1 hb0 hc1 hc0 hn1 hn2 hn3 hn0
    obtain rfl := hc0 (by decide); obtain rfl := hn0 (by decide)
    exact op_7 k d a b g hu h1 h2 (hd1 (by decide)) (ha1 (by decide)) (hb1 (by decide)) hg K V hz hbl
  have c15 : usesK k = 15 → Calls Tryd.prog 94 #[.pointer (some ⟨c, 0, none⟩), opV ⟨k, d, a, b, r3, n, g⟩] w fun x w' => x = .returned (.tuple #[]) ∧ Below w.heap.size w w' := by
    intro hu; rw [hu] at hd1 hd0 ha1 ha0 hb1 hb0 hc1 hc0 hn1 hn2 hn3 hn0
    obtain rfl := hn0 (by decide)
    exact op_15 k d a b r3 g hu h1 h2 (hd1 (by decide)) (ha1 (by decide)) (hb1 (by decide)) (hc1 (by decide)) hg K V hz hbl
  have c35 : usesK k = 35 → Calls Tryd.prog 94 #[.pointer (some ⟨c, 0, none⟩), opV ⟨k, d, a, b, r3, n, g⟩] w fun x w' => x = .returned (.tuple #[]) ∧ Below w.heap.size w w' := by
    intro hu; rw [hu] at hd1 hd0 ha1 ha0 hb1 hb0 hc1 hc0 hn1 hn2 hn3 hn0
    obtain rfl := hb0 (by decide); obtain rfl := hc0 (by decide)
    exact op_35 k d a n g hu h1 h2 (hd1 (by decide)) (ha1 (by decide)) (hn1 (by decide)) hg K V hz hbl
  have c38 : usesK k = 38 → Calls Tryd.prog 94 #[.pointer (some ⟨c, 0, none⟩), opV ⟨k, d, a, b, r3, n, g⟩] w fun x w' => x = .returned (.tuple #[]) ∧ Below w.heap.size w w' := by
    intro hu; rw [hu] at hd1 hd0 ha1 ha0 hb1 hb0 hc1 hc0 hn1 hn2 hn3 hn0
    obtain rfl := hd0 (by decide); obtain rfl := hc0 (by decide)
    exact op_38 k a b n g hu h1 h2 (ha1 (by decide)) (hb1 (by decide)) (hn1 (by decide)) hg K V hz hbl
  have c65 : usesK k = 65 → Calls Tryd.prog 94 #[.pointer (some ⟨c, 0, none⟩), opV ⟨k, d, a, b, r3, n, g⟩] w fun x w' => x = .returned (.tuple #[]) ∧ Below w.heap.size w w' := by
    intro hu; rw [hu] at hd1 hd0 ha1 ha0 hb1 hb0 hc1 hc0 hn1 hn2 hn3 hn0
    obtain rfl := ha0 (by decide); obtain rfl := hb0 (by decide); obtain rfl := hc0 (by decide)
    exact op_65 k d n g hu h1 h2 (hd1 (by decide)) (hn2 (by decide)) hg K V hz hbl
  have c66 : usesK k = 66 → Calls Tryd.prog 94 #[.pointer (some ⟨c, 0, none⟩), opV ⟨k, d, a, b, r3, n, g⟩] w fun x w' => x = .returned (.tuple #[]) ∧ Below w.heap.size w w' := by
    intro hu; rw [hu] at hd1 hd0 ha1 ha0 hb1 hb0 hc1 hc0 hn1 hn2 hn3 hn0
    obtain rfl := hd0 (by decide); obtain rfl := hb0 (by decide); obtain rfl := hc0 (by decide)
    exact op_66 k a n g hu h1 h2 (ha1 (by decide)) (hn2 (by decide)) hg K V hz hbl
  have c2 : usesK k = 2 → Calls Tryd.prog 94 #[.pointer (some ⟨c, 0, none⟩), opV ⟨k, d, a, b, r3, n, g⟩] w fun x w' => x = .returned (.tuple #[]) ∧ Below w.heap.size w w' := by
    intro hu; rw [hu] at hd1 hd0 ha1 ha0 hb1 hb0 hc1 hc0 hn1 hn2 hn3 hn0
    obtain rfl := hd0 (by decide); obtain rfl := hb0 (by decide); obtain rfl := hc0 (by decide); obtain rfl := hn0 (by decide)
    exact op_2 k a g hu h1 h2 (ha1 (by decide)) hg K V hz hbl
  have c130 : usesK k = 130 → Calls Tryd.prog 94 #[.pointer (some ⟨c, 0, none⟩), opV ⟨k, d, a, b, r3, n, g⟩] w fun x w' => x = .returned (.tuple #[]) ∧ Below w.heap.size w w' := by
    intro hu; rw [hu] at hd1 hd0 ha1 ha0 hb1 hb0 hc1 hc0 hn1 hn2 hn3 hn0
    obtain rfl := hd0 (by decide); obtain rfl := hb0 (by decide); obtain rfl := hc0 (by decide)
    exact op_130 k a n g hu h1 h2 (ha1 (by decide)) (hn3 (by decide)) hg K V hz hbl
  clear hd1 hd0 ha1 ha0 hb1 hb0 hc1 hc0 hg hn1 hn2 hn3 hn0 K V
  rcases h' with rfl | rfl | rfl | rfl | rfl | rfl | rfl | rfl | rfl | rfl | rfl | rfl | rfl | rfl | rfl | rfl | rfl | rfl | rfl | rfl | rfl | rfl | rfl | rfl | rfl <;> first | exact c7 rfl | exact c17 rfl | exact c3 rfl | exact c15 rfl | exact c35 rfl | exact c38 rfl | exact c65 rfl | exact c66 rfl | exact c2 rfl | exact c130 rfl
theorem edf_any (e : EdS) (h : EdFine U e) (K : Ck w c U Av cv Ab cb) (hbl : U.blocks.length ≤ 2000) :
    Calls Tryd.prog 95 #[.pointer (some ⟨c, 0, none⟩), edV e] w fun x w' => x = .returned (.tuple #[]) ∧ Below w.heap.size w w' := by
  obtain ⟨k, a, t, l⟩ := e
  obtain ⟨h1, h2, ⟨a1, a0⟩, ⟨t1, t0⟩, ⟨l1, l0⟩⟩ := h
  simp only at h1 h2 a1 a0 t1 t0 l1 l0
  have hc : k = 1 ∨ k = 2 ∨ k = 3 ∨ k = 4 := by omega
  rcases hc with rfl | rfl | rfl | rfl
  · obtain rfl := a0 rfl; obtain rfl := l0 (by decide)
    exact end_1 t (t1 (by decide)) K hbl
  · exact end_2 a t l (a1 (by decide)) (t1 (by decide)) (l1 rfl) K hbl
  · obtain rfl := t0 (by decide); obtain rfl := l0 (by decide)
    exact end_3 a (a1 (by decide)) K hbl
  · obtain rfl := t0 (by decide); obtain rfl := l0 (by decide)
    exact end_4 a (a1 (by decide)) K hbl

theorem size_ok (n : Int) (h1 : 1 ≤ n) (h2 : n ≤ 65536) (w : World) : Calls Tryd.prog 93 #[.int .i64 n] w fun x w' => x = .returned (.bool false) ∧ w = w' := by
  have d1 : decide (n < 1) = false := by simp; omega
  have d2 : decide (65536 < n) = false := by simp; omega
  go_enter Tryd.func93, Tryd.ntmps93
  go_wp2
  go_ret
  exact ⟨rfl, rfl⟩
theorem sizes_index (A : Option Addr) (cv : Nat) (l : List Int) (hl : l.length ≤ 16) (h : ∀ n ∈ l, 1 ≤ n ∧ n ≤ 65536) (hc : 0 < l.length → ∃ g o, A = some ⟨g, o, none⟩ ∧ ∀ j (hj : j < l.length), w.cell? ⟨g, o + j, none⟩ = some (.int .i64 l[j])) :
    Calls Tryd.prog 110 #[.slice A l.length cv, .func (.func 93) #[] #[]] w fun x w' => x = .returned (.int .i64 (-1)) ∧ w = w' := by
  have H := Lib.hid h
  have HC := Lib.hid hc
  clear h hc
  go_enter Tryd.func110, Tryd.ntmps110
  go_wp2
  go_loop [8] (fun i => ∃ k : Nat, k ≤ l.length ∧ i = .int .i64 k) (fun i => l.length - (intOf i).toNat)
  case atStart => exact ⟨0, Nat.zero_le _, rfl⟩
  case round =>
    obtain ⟨k, hk, rfl⟩ := hrel
    by_cases hlt : k < l.length
    · obtain ⟨g, o, rfl, hcc⟩ := HC.out (by omega)
      have hck := hcc k hlt
      obtain ⟨b1, b2⟩ := H.out _ (List.getElem_mem hlt)
      obtain ⟨r, hre⟩ : ∃ r, r = l[k] := ⟨_, rfl⟩
      rw [← hre] at hck b1 b2
      clear hcc hre
      go_wp2_with (go_at_call 93; refine (size_ok _ b1 b2 _).mono ?_; rintro x w3 ⟨rfl, rfl⟩)
      go_round
      case rel => exact ⟨k + 1, by omega, by go_num⟩
      case measure => simp [intOf]; omega
    · go_wp2
      go_ret
      exact ⟨rfl, rfl⟩
theorem sizes_ok (A : Option Addr) (cv : Nat) (l : List Int) (hl : l.length ≤ 16) (h : ∀ n ∈ l, 1 ≤ n ∧ n ≤ 65536) (hc : 0 < l.length → ∃ g o, A = some ⟨g, o, none⟩ ∧ ∀ j (hj : j < l.length), w.cell? ⟨g, o + j, none⟩ = some (.int .i64 l[j])) :
    Calls Tryd.prog 92 #[.slice A l.length cv, .func (.func 93) #[] #[]] w fun x w' => x = .returned (.bool false) ∧ w = w' := by
  have H := Lib.hid (sizes_index A cv l hl h hc)
  clear h hc
  go_enter Tryd.func92, Tryd.ntmps92
  go_wp2_with (go_at_call 110; refine H.out.mono ?_; rintro x w3 ⟨rfl, rfl⟩)
  go_ret
  exact ⟨rfl, rfl⟩
end Go.Proofs.YtfkjkdoloamakaaDoor

/- What trap of package run does: the state is St.trap. -/
namespace Go.Proofs.YtfkjkdoloamakaaDoor
open Go.RowKit
set_option linter.unusedVariables false
variable {F : Nat → Prop} {w0 w : World} {M0 : Nat → Prop} {p : Nat} {U : UnS} {s : St}

theorem EngQ.endP {L : EngL} (Q : EngQ layP F w0 M0 w p U s L) (k v : Int) : EngQ layP F w0 M0 ((w.setCell ⟨p, 13, none⟩ (.int .i64 k)).setCell ⟨p, 14, none⟩ (.int .i64 v)) p U { s with kind := k, val := v } L :=
  Q.newP okP (s' := { s with kind := k, val := v }) (Fr.two _ _ _ _ _ _) ((Q.e.blk.set_ 13 (.int .i64 k)).set_ 14 (.int .i64 v)) rfl rfl rfl rfl rfl rfl
theorem EngQ.pcP {L : EngL} (Q : EngQ layP F w0 M0 w p U s L) (n : Nat) : EngQ layP F w0 M0 (w.setCell ⟨p, 11, none⟩ (.int .i64 n)) p U { s with pc := n } L :=
  Q.newP okP (s' := { s with pc := n }) (Fr.one _ _ _ _) (Q.e.blk.set_ 11 (.int .i64 n)) rfl rfl rfl rfl rfl rfl
theorem EngQ.stepsP {L : EngL} (Q : EngQ layP F w0 M0 w p U s L) (n : Int) : EngQ layP F w0 M0 (w.setCell ⟨p, 12, none⟩ (.int .i64 n)) p U { s with steps := n } L :=
  Q.newP okP (s' := { s with steps := n }) (Fr.one _ _ _ _) (Q.e.blk.set_ 12 (.int .i64 n)) rfl rfl rfl rfl rfl rfl
/-- the blocks' row, at a block -/
theorem code_at {F : Nat → Prop} {w : World} {vb : Value} {bs : List BlkS} (h : RdBlocks F w vb bs) (i : Nat) (hi : i < bs.length) :
    ∃ g o c A n cc, vb = .slice (some ⟨g, o, none⟩) bs.length c ∧ n = (bs.getD i dBl).ops.length ∧ w.cell? ⟨g, o + i * 6, none⟩ = some (.slice A n cc) ∧ w.cell? ⟨g, o + i * 6 + 1, none⟩ = some (.int .i64 (bs.getD i dBl).ed.k) ∧ w.cell? ⟨g, o + i * 6 + 2, none⟩ = some (.int .i64 (bs.getD i dBl).ed.a) ∧ w.cell? ⟨g, o + i * 6 + 3, none⟩ = some (.int .i64 (bs.getD i dBl).ed.t) ∧ w.cell? ⟨g, o + i * 6 + 4, none⟩ = some (.int .i64 (bs.getD i dBl).ed.l) ∧ w.cell? ⟨g, o + i * 6 + 5, none⟩ = some (.int .i64 (bs.getD i dBl).ct) ∧
      (∀ k (_ : k < n), ∃ g' o', A = some ⟨g', o', none⟩ ∧ w.cell? ⟨g', o' + k * 7, none⟩ = some (.int .i64 ((bs.getD i dBl).ops.getD k dOp).k) ∧ w.cell? ⟨g', o' + k * 7 + 1, none⟩ = some (.int .i64 ((bs.getD i dBl).ops.getD k dOp).d) ∧ w.cell? ⟨g', o' + k * 7 + 2, none⟩ = some (.int .i64 ((bs.getD i dBl).ops.getD k dOp).a) ∧ w.cell? ⟨g', o' + k * 7 + 3, none⟩ = some (.int .i64 ((bs.getD i dBl).ops.getD k dOp).b) ∧ w.cell? ⟨g', o' + k * 7 + 4, none⟩ = some (.int .i64 ((bs.getD i dBl).ops.getD k dOp).c) ∧ w.cell? ⟨g', o' + k * 7 + 5, none⟩ = some (.int .i64 ((bs.getD i dBl).ops.getD k dOp).n) ∧ w.cell? ⟨g', o' + k * 7 + 6, none⟩ = some (.int .i64 ((bs.getD i dBl).ops.getD k dOp).g)) := by
  obtain ⟨vs, hl, ⟨_, A0, c0, e0, _, _, h1⟩, h2⟩ := h
  obtain ⟨g, o, rfl, _, _, hc⟩ := h1 (by omega)
  obtain ⟨ho, A, c, e2, _, _, h3⟩ := h2 i hi
  have eb : bs[i] = bs.getD i dBl := by rw [List.getD_eq_getElem?_getD, List.getElem?_eq_getElem hi]; rfl
  rw [eb] at ho e2 h3
  have hb := blsC_at vs bs hl i hi
  have cell : ∀ j u, j < 6 → (vs.getD i .nilFunc :: edC (bs.getD i dBl).ed ++ [Value.int .i64 (bs.getD i dBl).ct])[j]? = some u → w.cell? ⟨g, o + i * 6 + j, none⟩ = some u := fun j u hj hu => by
    have := hc (i * 6 + j) u ((hb j hj).trans hu)
    rwa [← Nat.add_assoc] at this
  refine ⟨g, o, c0, A, _, c, e0, rfl, ?_, cell 1 _ (by omega) rfl, cell 2 _ (by omega) rfl, cell 3 _ (by omega) rfl, cell 4 _ (by omega) rfl, cell 5 _ (by omega) rfl, fun k hk => ?_⟩
  · have := cell 0 _ (by omega) rfl
    rw [e2] at this; simpa using this
  · obtain ⟨g', o', rfl, _, _, hc'⟩ := h3 (by omega)
    have hop := opsC_at (bs.getD i dBl).ops k hk
    have cell' : ∀ j u, j < 7 → (opC ((bs.getD i dBl).ops.getD k dOp))[j]? = some u → w.cell? ⟨g', o' + k * 7 + j, none⟩ = some u := fun j u hj hu => by
      have := hc' (k * 7 + j) u ((hop j hj).trans hu)
      rwa [← Nat.add_assoc] at this
    exact ⟨g', o', rfl, cell' 0 _ (by omega) rfl, cell' 1 _ (by omega) rfl, cell' 2 _ (by omega) rfl, cell' 3 _ (by omega) rfl, cell' 4 _ (by omega) rfl, cell' 5 _ (by omega) rfl, cell' 6 _ (by omega) rfl⟩

set_option maxRecDepth 100000 in
set_option maxHeartbeats 1000000 in
theorem trap_any (G : UnGood U) (S : StGood U s) (E : EngX layP F w0 M0 w p U s) (n : Int) :
    Calls Tryd.prog 79 #[.pointer (some ⟨p, 0, none⟩), .int .i64 n] w fun e w' => e = .returned (.tuple #[]) ∧ EngX layP F w0 M0 w' p U (s.trap U n) := by
  obtain ⟨L, Q⟩ := E
  obtain ⟨g, o, c, A, nn, cc, eb, _, _, _, _, _, _, c5, _⟩ := code_at Q.e.code s.bl S.bl
  have h5 := P5 Q.e
  rw [eb] at h5
  have h10 := P10 Q.e
  have h13 := P13 Q.e
  have h14 := P14 Q.e
  have f13 := Q.e.blk.frozen 13
  have f14 := Q.e.blk.frozen 14
  have hbl := S.bl
  have hmb := G.mb
  obtain ⟨ct, hct⟩ : ∃ ct, ct = (U.blocks.getD s.bl dBl).ct := ⟨_, rfl⟩
  rw [← hct] at c5
  by_cases hn : ct < 0
  · have HN := Lib.hid (show s.trap U n = { s with kind := 2, val := n } by simp only [St.trap, ← hct, hn, if_true])
    have HQ := Lib.hid Q
    clear hct Q eb
    go_enter Tryd.func79, Tryd.ntmps79
    go_wp2
    go_quiet (fail)
    go_wp2
    first | go_end0 | refine bodyPost_ret (results_none rfl _ _ _) rfl ?_
    refine ⟨rfl, ?_⟩
    rw [HN.out]
    exact ((HQ.out.drewN nq).endP 2 n).x
  · have hct1 : inR ct U.blocks.length := by
      rcases (G.bls _ (List.getElem_mem S.bl)).ct with h | h
      · exfalso; apply hn; rw [hct, List.getD_eq_getElem?_getD, List.getElem?_eq_getElem S.bl]; simp only [Option.getD_some]; omega
      · rw [hct, List.getD_eq_getElem?_getD, List.getElem?_eq_getElem S.bl]; exact h
    obtain ⟨hc0, hc1⟩ := hct1
    have HN := Lib.hid (show s.trap U n = (s.put U.code (n, 0)).enter ct.toNat by simp only [St.trap, ← hct, hn, if_false])
    obtain ⟨hd0, hd1⟩ := G.cd
    have hr := S.regs
    have h3 := P3 Q.e
    have h6 := P6 Q.e
    have hr1 : U.code < s.regs.length := by omega
    have r0 := reg0 Q.e hd0 hr1
    have r1 := reg1 Q.e hd0 hr1
    have g0 := Q.e.regs.frozen (U.code.toNat * 2)
    have g1 := Q.e.regs.frozen (U.code.toNat * 2 + 1)
    obtain ⟨a0, ha0⟩ : ∃ a0, a0 = (s.reg U.code).1 := ⟨_, rfl⟩
    obtain ⟨a1, ha1⟩ : ∃ a1, a1 = (s.reg U.code).2 := ⟨_, rfl⟩
    rw [← ha0] at r0; rw [← ha1] at r1
    have hrl : s.regs.length ≤ 4096 := by have := G.r2; omega
    have HQ := Lib.hid Q
    have HW := Lib.hid S.ways
    have HL : Hid (ct < (s.put U.code (n, 0)).seen.length) := by show ct < s.seen.length; rw [S.seen]; exact hc1
    clear hct Q eb ha0 ha1 hr
    go_enter Tryd.func79, Tryd.ntmps79
    go_wp2
    go_quiet (fail)
    go_wp2_with fail
    go_region
    go_wp2_with (go_at_call 97; refine (enter_any ((HQ.out.drewN (nq + 1)).newReg okP U.code.toNat (n, 0)).x ct hc0 HL.out HW.out).mono ?_; rintro e w' ⟨rfl, E'⟩)
    go_end0
    rw [HN.out]
    exact ⟨rfl, E'⟩
end Go.Proofs.YtfkjkdoloamakaaDoor

/- What leave of package run does: the state is St.leave. -/
namespace Go.Proofs.YtfkjkdoloamakaaDoor
open Go.RowKit
set_option linter.unusedVariables false
variable {F : Nat → Prop} {w0 w : World} {M0 : Nat → Prop} {p : Nat} {U : UnS} {s : St}

theorem StGood.put {U : UnS} {s : St} (S : StGood U s) (r : Int) (v : Int × Int) (hv : fm v = true) : StGood U (s.put r v) :=
  { S with
    regs := by simpa [St.put] using S.regs
    form := fun x hx => (List.mem_or_eq_of_mem_set hx).elim (S.form x) (fun h => h ▸ hv) }
theorem bel_box {w w1 : World} {o : Obj} (h : Below (w.alloc o).heap.size (w.alloc o) w1) : Below w.heap.size w w1 := ((Below.refl _ w).alloc (Nat.le_refl _) o).trans (h.mono (by simp))
theorem EngQ.cntTo {L : EngL} (Q : EngQ layP F w0 M0 w p U s L) (x : Int) (hx : s.seen.modify s.bl (fun y => (y.1, wrap64 (x + 1), y.2.2)) = s.seen.modify s.bl (fun y => (y.1, wrap64 (y.2.1 + 1), y.2.2))) : EngQ layP F w0 M0 (w.setCell ⟨L.gs, s.bl * 3 + 1, none⟩ (.int .i64 (wrap64 (x + 1)))) p U { s with seen := s.seen.modify s.bl (fun y => (y.1, wrap64 (y.2.1 + 1), y.2.2)) } L :=
  Q.newSeen okP _ _ _ (by simp) (by rw [cntC_set1, hx])
theorem EngQ.cntElse {L : EngL} (Q : EngQ layP F w0 M0 w p U s L) (x : Int) (hx : s.seen.modify s.bl (fun y => (y.1, y.2.1, wrap64 (x + 1))) = s.seen.modify s.bl (fun y => (y.1, y.2.1, wrap64 (y.2.2 + 1)))) : EngQ layP F w0 M0 (w.setCell ⟨L.gs, s.bl * 3 + 2, none⟩ (.int .i64 (wrap64 (x + 1)))) p U { s with seen := s.seen.modify s.bl (fun y => (y.1, y.2.1, wrap64 (y.2.2 + 1))) } L :=
  Q.newSeen okP _ _ _ (by simp) (by rw [cntC_set2, hx])

theorem cell_box {w w1 : World} {cs : Array Value} {t : TypeId} (h : Below (w.alloc (.cells cs t)).heap.size (w.alloc (.cells cs t)) w1) (i : Nat) (v : Value) (hv : cs[i]? = some v) : w1.cell? ⟨w.heap.size, i, none⟩ = some v := by
  rw [h.cell (by simp)]
  exact ((Blk.new w t cs).cell i).trans hv
theorem bad_one {L : EngL} (E : Eng layP F w p U s L) {g : Nat} {a : Int} (hc : w.cell? ⟨g, 0, none⟩ = some (.int .i64 a)) (ha0 : 0 ≤ a) (ha1 : a < s.regs.length) (b : Int) (hb : (s.reg a).2 = b) :
    Calls Tryd.prog 98 #[.pointer (some ⟨p, 0, none⟩), .slice (some ⟨g, 0, none⟩) 1 1] w fun e w' => e = .returned (.int .i64 b) ∧ w = w' := by
  have h := bad_any E (some ⟨g, 0, none⟩) 1 [a] (fun _ => ⟨g, rfl, fun j hj => by
    have hj0 : j = 0 := by simpa using hj
    subst hj0; exact hc⟩) (fun r hr => by simp at hr; subst hr; exact ⟨ha0, ha1⟩) (by simp)
  have e : badOf s.regs [a] = b := by
    show (if (s.regs.getD a.toNat (0, 0)).2 ≠ 0 then (s.regs.getD a.toNat (0, 0)).2 else 0) = b
    have hb' : (s.regs.getD a.toNat (0, 0)).2 = b := hb
    rw [hb']
    by_cases h0 : b = 0
    · simp [h0]
    · simp [h0]
  rw [e] at h
  exact h

set_option maxRecDepth 100000 in
set_option maxHeartbeats 2000000 in
theorem leave_jump (G : UnGood U) (S : StGood U s) (E : EngX layP F w0 M0 w p U s) (a t l : Int) (ha0 : 0 ≤ a) (ha1 : a < s.regs.length) (ht0 : 0 ≤ t) (ht1 : t < s.seen.length) :
    Calls Tryd.prog 77 #[.pointer (some ⟨p, 0, none⟩), .agg #[.int .i64 1, .int .i64 a, .int .i64 t, .int .i64 l]] w fun e w' => e = .returned (.tuple #[]) ∧ EngX layP F w0 M0 w' p U (({ s with seen := s.seen.modify s.bl (fun y => (y.1, wrap64 (y.2.1 + 1), y.2.2)) } : St).enter t.toNat) := by
  obtain ⟨L, Q⟩ := E
  have hbs : s.bl < s.seen.length := by rw [S.seen]; exact S.bl
  have hmb : s.seen.length ≤ 2000 := by rw [S.seen]; exact G.mb
  have hrl : s.regs.length ≤ 4096 := by have := G.r2; have := S.regs; omega
  have HQ := Lib.hid Q
  have HS := Lib.hid S
  have HG := Lib.hid G
  
  clear Q S G
  go_enter Tryd.func77, Tryd.ntmps77
  go_wp2_with (first
    | (go_at_call 99; refine (endReads_jump _ _ _ _).mono ?_; rintro e w1 ⟨rfl, hb⟩; have Q1 := HQ.out.below (bel_box hb); have c6 := P6 Q1.e; have c10 := P10 Q1.e; have c13 := P13 Q1.e; have c14 := P14 Q1.e; have c16 := P16 Q1.e; have f13 := Q1.e.blk.frozen 13; have f14 := Q1.e.blk.frozen 14; have fs1 := Q1.e.seen.frozen (s.bl * 3 + 1); have fs2 := Q1.e.seen.frozen (s.bl * 3 + 2); have r0 := reg0 Q1.e ha0 ha1; have r1 := reg1 Q1.e ha0 ha1; have hns : p ≠ L.gs := (Q1.e.blk.ne_ Q1.e.seen (by decide)); have hns' := hns.symm; obtain ⟨x1, hx1, hxe1⟩ := seen1 Q1.e hbs; obtain ⟨x2, hx2, hxe2⟩ := seen2 Q1.e hbs; have bc := ((bel_box hb).size); have xc0 := cell_box hb 0 _ rfl; have xc1 := cell_box hb 1 _ rfl; have xc2 := cell_box hb 2 _ rfl; have xc3 := cell_box hb 3 _ rfl; have HQ1 := Lib.hid Q1; have HX1 := Lib.hid hxe1; have HX2 := Lib.hid hxe2; clear Q1 hxe1 hxe2 hb)
    | (go_at_call 98; refine (bad_any HQ1.out.e _ _ [] (fun h => absurd h (by simp)) (fun r hr => absurd hr (by simp)) (by simp)).mono ?_; rintro e w2 ⟨rfl, rfl⟩))
  go_quiet (fail)
  go_wp2_with fail
  go_quiet (fail)
  go_wp2_with (go_at_call 97; refine (enter_any ((HQ1.out.drewN _).cntTo _ HX1.out).x t ht0 (by simpa using ht1) HS.out.ways).mono ?_; rintro e w3 ⟨rfl, E3⟩)
  first | go_end0 | refine bodyPost_ret (results_none rfl _ _ _) rfl ?_
  exact ⟨rfl, E3⟩

set_option maxRecDepth 100000 in
set_option maxHeartbeats 2000000 in
theorem leave_bad (G : UnGood U) (S : StGood U s) (E : EngX layP F w0 M0 w p U s) (a t l : Int) (ha0 : 0 ≤ a) (ha1 : a < s.regs.length) (k b2 : Int) (hk1 : (k == 1) = false) (hbd : (s.reg a).2 = b2) (hb0 : ¬ b2 = 0) :
    Calls Tryd.prog 77 #[.pointer (some ⟨p, 0, none⟩), .agg #[.int .i64 k, .int .i64 a, .int .i64 t, .int .i64 l]] w fun e w' => e = .returned (.tuple #[]) ∧ EngX layP F w0 M0 w' p U (s.trap U b2) := by
  obtain ⟨L, Q⟩ := E
  have hbs : s.bl < s.seen.length := by rw [S.seen]; exact S.bl
  have hmb : s.seen.length ≤ 2000 := by rw [S.seen]; exact G.mb
  have hrl : s.regs.length ≤ 4096 := by have := G.r2; have := S.regs; omega
  have HQ := Lib.hid Q
  have HBD := Lib.hid hbd
  clear hbd
  have HS := Lib.hid S
  have HG := Lib.hid G
  
  clear Q S G
  go_enter Tryd.func77, Tryd.ntmps77
  go_wp2_with (first
    | (go_at_call 99; refine (endReads_other _ _ _ _ hk1 _).mono ?_; rintro e w1 ⟨ge, rfl, hge, hblk, hb⟩; have hlc := hblk.cell 0; have Q1 := HQ.out.below (bel_box hb); have c6 := P6 Q1.e; have c10 := P10 Q1.e; have c13 := P13 Q1.e; have c14 := P14 Q1.e; have c16 := P16 Q1.e; have f13 := Q1.e.blk.frozen 13; have f14 := Q1.e.blk.frozen 14; have fs1 := Q1.e.seen.frozen (s.bl * 3 + 1); have fs2 := Q1.e.seen.frozen (s.bl * 3 + 2); have r0 := reg0 Q1.e ha0 ha1; have r1 := reg1 Q1.e ha0 ha1; have hns : p ≠ L.gs := (Q1.e.blk.ne_ Q1.e.seen (by decide)); have hns' := hns.symm; obtain ⟨x1, hx1, hxe1⟩ := seen1 Q1.e hbs; obtain ⟨x2, hx2, hxe2⟩ := seen2 Q1.e hbs; have bc := ((bel_box hb).size); have xc0 := cell_box hb 0 _ rfl; have xc1 := cell_box hb 1 _ rfl; have xc2 := cell_box hb 2 _ rfl; have xc3 := cell_box hb 3 _ rfl; have HQ1 := Lib.hid Q1; have HX1 := Lib.hid hxe1; have HX2 := Lib.hid hxe2; clear Q1 hxe1 hxe2 hb)
    | (go_at_call 98; refine (bad_one HQ1.out.e hlc ha0 ha1 b2 HBD.out).mono ?_; rintro e w2 ⟨rfl, rfl⟩))
  go_wp2_with (go_at_call 79; refine (trap_any HG.out HS.out HQ1.out.x _).mono ?_; rintro e w3 ⟨rfl, E3⟩)
  first | go_end0 | refine bodyPost_ret (results_none rfl _ _ _) rfl ?_
  exact ⟨rfl, E3⟩

set_option maxRecDepth 100000 in
set_option maxHeartbeats 2000000 in
theorem leave_throw (G : UnGood U) (S : StGood U s) (E : EngX layP F w0 M0 w p U s) (a t l : Int) (ha0 : 0 ≤ a) (ha1 : a < s.regs.length) (hbd : (s.reg a).2 = 0) :
    Calls Tryd.prog 77 #[.pointer (some ⟨p, 0, none⟩), .agg #[.int .i64 4, .int .i64 a, .int .i64 t, .int .i64 l]] w fun e w' => e = .returned (.tuple #[]) ∧ EngX layP F w0 M0 w' p U (s.trap U (s.reg a).1) := by
  obtain ⟨L, Q⟩ := E
  have hbs : s.bl < s.seen.length := by rw [S.seen]; exact S.bl
  have hmb : s.seen.length ≤ 2000 := by rw [S.seen]; exact G.mb
  have hrl : s.regs.length ≤ 4096 := by have := G.r2; have := S.regs; omega
  have HQ := Lib.hid Q
  have HBD := Lib.hid hbd
  clear hbd
  have HS := Lib.hid S
  have HG := Lib.hid G
  have hk1 : ((4 : Int) == 1) = false := by decide
  clear Q S G
  go_enter Tryd.func77, Tryd.ntmps77
  go_wp2_with (first
    | (go_at_call 99; refine (endReads_other _ _ _ _ hk1 _).mono ?_; rintro e w1 ⟨ge, rfl, hge, hblk, hb⟩; have hlc := hblk.cell 0; have Q1 := HQ.out.below (bel_box hb); have c6 := P6 Q1.e; have c10 := P10 Q1.e; have c13 := P13 Q1.e; have c14 := P14 Q1.e; have c16 := P16 Q1.e; have f13 := Q1.e.blk.frozen 13; have f14 := Q1.e.blk.frozen 14; have fs1 := Q1.e.seen.frozen (s.bl * 3 + 1); have fs2 := Q1.e.seen.frozen (s.bl * 3 + 2); have r0 := reg0 Q1.e ha0 ha1; have r1 := reg1 Q1.e ha0 ha1; have hns : p ≠ L.gs := (Q1.e.blk.ne_ Q1.e.seen (by decide)); have hns' := hns.symm; obtain ⟨x1, hx1, hxe1⟩ := seen1 Q1.e hbs; obtain ⟨x2, hx2, hxe2⟩ := seen2 Q1.e hbs; have bc := ((bel_box hb).size); have xc0 := cell_box hb 0 _ rfl; have xc1 := cell_box hb 1 _ rfl; have xc2 := cell_box hb 2 _ rfl; have xc3 := cell_box hb 3 _ rfl; have HQ1 := Lib.hid Q1; have HX1 := Lib.hid hxe1; have HX2 := Lib.hid hxe2; clear Q1 hxe1 hxe2 hb)
    | (go_at_call 98; refine (bad_one HQ1.out.e hlc ha0 ha1 0 HBD.out).mono ?_; rintro e w2 ⟨rfl, rfl⟩))
  go_quiet (fail)
  go_wp2_with fail
  go_quiet (fail)
  go_wp2_with (go_at_call 79; refine (trap_any HG.out HS.out (HQ1.out.drewN _).x _).mono ?_; rintro e w3 ⟨rfl, E3⟩)
  first | go_end0 | refine bodyPost_ret (results_none rfl _ _ _) rfl ?_
  exact ⟨rfl, E3⟩

set_option maxRecDepth 100000 in
set_option maxHeartbeats 2000000 in
theorem leave_return (G : UnGood U) (S : StGood U s) (E : EngX layP F w0 M0 w p U s) (a t l : Int) (ha0 : 0 ≤ a) (ha1 : a < s.regs.length) (hbd : (s.reg a).2 = 0) :
    Calls Tryd.prog 77 #[.pointer (some ⟨p, 0, none⟩), .agg #[.int .i64 3, .int .i64 a, .int .i64 t, .int .i64 l]] w fun e w' => e = .returned (.tuple #[]) ∧ EngX layP F w0 M0 w' p U ({ s with kind := 1, val := (s.reg a).1 }) := by
  obtain ⟨L, Q⟩ := E
  have hbs : s.bl < s.seen.length := by rw [S.seen]; exact S.bl
  have hmb : s.seen.length ≤ 2000 := by rw [S.seen]; exact G.mb
  have hrl : s.regs.length ≤ 4096 := by have := G.r2; have := S.regs; omega
  have HQ := Lib.hid Q
  have HBD := Lib.hid hbd
  clear hbd
  have HS := Lib.hid S
  have HG := Lib.hid G
  have hk1 : ((3 : Int) == 1) = false := by decide
  clear Q S G
  go_enter Tryd.func77, Tryd.ntmps77
  go_wp2_with (first
    | (go_at_call 99; refine (endReads_other _ _ _ _ hk1 _).mono ?_; rintro e w1 ⟨ge, rfl, hge, hblk, hb⟩; have hlc := hblk.cell 0; have Q1 := HQ.out.below (bel_box hb); have c6 := P6 Q1.e; have c10 := P10 Q1.e; have c13 := P13 Q1.e; have c14 := P14 Q1.e; have c16 := P16 Q1.e; have f13 := Q1.e.blk.frozen 13; have f14 := Q1.e.blk.frozen 14; have fs1 := Q1.e.seen.frozen (s.bl * 3 + 1); have fs2 := Q1.e.seen.frozen (s.bl * 3 + 2); have r0 := reg0 Q1.e ha0 ha1; have r1 := reg1 Q1.e ha0 ha1; have hns : p ≠ L.gs := (Q1.e.blk.ne_ Q1.e.seen (by decide)); have hns' := hns.symm; obtain ⟨x1, hx1, hxe1⟩ := seen1 Q1.e hbs; obtain ⟨x2, hx2, hxe2⟩ := seen2 Q1.e hbs; have bc := ((bel_box hb).size); have xc0 := cell_box hb 0 _ rfl; have xc1 := cell_box hb 1 _ rfl; have xc2 := cell_box hb 2 _ rfl; have xc3 := cell_box hb 3 _ rfl; have HQ1 := Lib.hid Q1; have HX1 := Lib.hid hxe1; have HX2 := Lib.hid hxe2; clear Q1 hxe1 hxe2 hb)
    | (go_at_call 98; refine (bad_one HQ1.out.e hlc ha0 ha1 0 HBD.out).mono ?_; rintro e w2 ⟨rfl, rfl⟩))
  go_quiet (fail)
  go_wp2_with fail
  go_quiet (fail)
  go_wp2
  first | go_end0 | refine bodyPost_ret (results_none rfl _ _ _) rfl ?_
  exact ⟨rfl, ((HQ1.out.drewN _).endP 1 (s.reg a).1).x⟩

set_option maxRecDepth 100000 in
set_option maxHeartbeats 2000000 in
theorem leave_to (G : UnGood U) (S : StGood U s) (E : EngX layP F w0 M0 w p U s) (a t l : Int) (ha0 : 0 ≤ a) (ha1 : a < s.regs.length) (hbd : (s.reg a).2 = 0) (hz : ¬ (s.reg a).1 = 0) (ht0 : 0 ≤ t) (ht1 : t < s.seen.length) :
    Calls Tryd.prog 77 #[.pointer (some ⟨p, 0, none⟩), .agg #[.int .i64 2, .int .i64 a, .int .i64 t, .int .i64 l]] w fun e w' => e = .returned (.tuple #[]) ∧ EngX layP F w0 M0 w' p U (({ s with seen := s.seen.modify s.bl (fun y => (y.1, wrap64 (y.2.1 + 1), y.2.2)) } : St).enter t.toNat) := by
  obtain ⟨L, Q⟩ := E
  have hbs : s.bl < s.seen.length := by rw [S.seen]; exact S.bl
  have hmb : s.seen.length ≤ 2000 := by rw [S.seen]; exact G.mb
  have hrl : s.regs.length ≤ 4096 := by have := G.r2; have := S.regs; omega
  have HQ := Lib.hid Q
  have HBD := Lib.hid hbd
  clear hbd
  have HS := Lib.hid S
  have HG := Lib.hid G
  have hk1 : ((2 : Int) == 1) = false := by decide
  clear Q S G
  go_enter Tryd.func77, Tryd.ntmps77
  go_wp2_with (first
    | (go_at_call 99; refine (endReads_other _ _ _ _ hk1 _).mono ?_; rintro e w1 ⟨ge, rfl, hge, hblk, hb⟩; have hlc := hblk.cell 0; have Q1 := HQ.out.below (bel_box hb); have c6 := P6 Q1.e; have c10 := P10 Q1.e; have c13 := P13 Q1.e; have c14 := P14 Q1.e; have c16 := P16 Q1.e; have f13 := Q1.e.blk.frozen 13; have f14 := Q1.e.blk.frozen 14; have fs1 := Q1.e.seen.frozen (s.bl * 3 + 1); have fs2 := Q1.e.seen.frozen (s.bl * 3 + 2); have r0 := reg0 Q1.e ha0 ha1; have r1 := reg1 Q1.e ha0 ha1; have hns : p ≠ L.gs := (Q1.e.blk.ne_ Q1.e.seen (by decide)); have hns' := hns.symm; obtain ⟨x1, hx1, hxe1⟩ := seen1 Q1.e hbs; obtain ⟨x2, hx2, hxe2⟩ := seen2 Q1.e hbs; have bc := ((bel_box hb).size); have xc0 := cell_box hb 0 _ rfl; have xc1 := cell_box hb 1 _ rfl; have xc2 := cell_box hb 2 _ rfl; have xc3 := cell_box hb 3 _ rfl; have HQ1 := Lib.hid Q1; have HX1 := Lib.hid hxe1; have HX2 := Lib.hid hxe2; clear Q1 hxe1 hxe2 hb)
    | (go_at_call 98; refine (bad_one HQ1.out.e hlc ha0 ha1 0 HBD.out).mono ?_; rintro e w2 ⟨rfl, rfl⟩))
  go_quiet (fail)
  go_wp2_with fail
  go_quiet (fail)
  go_wp2_with (go_at_call 97; refine (enter_any ((HQ1.out.drewN _).cntTo _ HX1.out).x t ht0 (by simpa using ht1) HS.out.ways).mono ?_; rintro e w3 ⟨rfl, E3⟩)
  first | go_end0 | refine bodyPost_ret (results_none rfl _ _ _) rfl ?_
  exact ⟨rfl, E3⟩

set_option maxRecDepth 100000 in
set_option maxHeartbeats 2000000 in
theorem leave_else (G : UnGood U) (S : StGood U s) (E : EngX layP F w0 M0 w p U s) (a t l : Int) (ha0 : 0 ≤ a) (ha1 : a < s.regs.length) (hbd : (s.reg a).2 = 0) (hz : (s.reg a).1 = 0) (ht0 : 0 ≤ l) (ht1 : l < s.seen.length) :
    Calls Tryd.prog 77 #[.pointer (some ⟨p, 0, none⟩), .agg #[.int .i64 2, .int .i64 a, .int .i64 t, .int .i64 l]] w fun e w' => e = .returned (.tuple #[]) ∧ EngX layP F w0 M0 w' p U (({ s with seen := s.seen.modify s.bl (fun y => (y.1, y.2.1, wrap64 (y.2.2 + 1))) } : St).enter l.toNat) := by
  obtain ⟨L, Q⟩ := E
  have hbs : s.bl < s.seen.length := by rw [S.seen]; exact S.bl
  have hmb : s.seen.length ≤ 2000 := by rw [S.seen]; exact G.mb
  have hrl : s.regs.length ≤ 4096 := by have := G.r2; have := S.regs; omega
  have HQ := Lib.hid Q
  have HBD := Lib.hid hbd
  clear hbd
  have HS := Lib.hid S
  have HG := Lib.hid G
  have hk1 : ((2 : Int) == 1) = false := by decide
  clear Q S G
  go_enter Tryd.func77, Tryd.ntmps77
  go_wp2_with (first
    | (go_at_call 99; refine (endReads_other _ _ _ _ hk1 _).mono ?_; rintro e w1 ⟨ge, rfl, hge, hblk, hb⟩; have hlc := hblk.cell 0; have Q1 := HQ.out.below (bel_box hb); have c6 := P6 Q1.e; have c10 := P10 Q1.e; have c13 := P13 Q1.e; have c14 := P14 Q1.e; have c16 := P16 Q1.e; have f13 := Q1.e.blk.frozen 13; have f14 := Q1.e.blk.frozen 14; have fs1 := Q1.e.seen.frozen (s.bl * 3 + 1); have fs2 := Q1.e.seen.frozen (s.bl * 3 + 2); have r0 := reg0 Q1.e ha0 ha1; have r1 := reg1 Q1.e ha0 ha1; have hns : p ≠ L.gs := (Q1.e.blk.ne_ Q1.e.seen (by decide)); have hns' := hns.symm; obtain ⟨x1, hx1, hxe1⟩ := seen1 Q1.e hbs; obtain ⟨x2, hx2, hxe2⟩ := seen2 Q1.e hbs; have bc := ((bel_box hb).size); have xc0 := cell_box hb 0 _ rfl; have xc1 := cell_box hb 1 _ rfl; have xc2 := cell_box hb 2 _ rfl; have xc3 := cell_box hb 3 _ rfl; have HQ1 := Lib.hid Q1; have HX1 := Lib.hid hxe1; have HX2 := Lib.hid hxe2; clear Q1 hxe1 hxe2 hb)
    | (go_at_call 98; refine (bad_one HQ1.out.e hlc ha0 ha1 0 HBD.out).mono ?_; rintro e w2 ⟨rfl, rfl⟩))
  go_quiet (fail)
  go_wp2_with fail
  go_quiet (fail)
  go_wp2_with (go_at_call 97; refine (enter_any ((HQ1.out.drewN _).cntElse _ HX2.out).x l ht0 (by simpa using ht1) HS.out.ways).mono ?_; rintro e w3 ⟨rfl, E3⟩)
  first | go_end0 | refine bodyPost_ret (results_none rfl _ _ _) rfl ?_
  exact ⟨rfl, E3⟩
end Go.Proofs.YtfkjkdoloamakaaDoor

/- What Read of package code computes: the registers that an operation reads. -/
namespace Go.Proofs.YtfkjkdoloamakaaDoor
open Go.RowKit
set_option linter.unusedVariables false

theorem box_lt {w w1 : World} {o : Obj} (h : Below (w.alloc o).heap.size (w.alloc o) w1) : w.heap.size < w1.heap.size := by have := h.size; simp at this; omega
theorem pw_drew {B : Nat} {w W : World} (h : Below B w W) (n : Nat) : Below B w (W.drewN n) := ⟨h.os, h.tape, h.output, h.size, h.block⟩
section
variable {w wr w2 : World} {nq gf : Nat} {o : Obj} {l v : Value} {u : Value}
theorem app_bel (hb : Below w.heap.size w wr) (hgw : w.heap.size ≤ gf) (hg : ((wr.drewN nq).alloc o).grownBy w2 l.ownBlock) (ho : ∀ q, l.ownBlock = some q → gf < q) : Below w.heap.size w w2 :=
  ((pw_drew hb nq).alloc hb.size o).grown hg (Nat.le_trans hb.size (by simp)) (fun q hq => by have := ho q hq; omega)
theorem app_cell (hc : wr.cell? ⟨gf, 0, none⟩ = some u) (hs : gf < wr.heap.size) (hg : ((wr.drewN nq).alloc o).grownBy w2 l.ownBlock) (ho : ∀ q, l.ownBlock = some q → gf < q) : w2.cell? ⟨gf, 0, none⟩ = some u :=
  (Fr.of_grown (M := fun b => gf < b) hg ho).cell ((World.cell?_alloc_lt (wr.drewN nq) o ⟨gf, 0, none⟩ hs).trans hc) (by simp)
theorem app_lt (hs : gf < wr.heap.size) (hg : ((wr.drewN nq).alloc o).grownBy w2 l.ownBlock) : gf < w2.heap.size := by
  have := hg.size; simp at this; omega
theorem app_ob (hs : gf < wr.heap.size) (ha : v.ownBlock = l.ownBlock ∨ v.ownBlock = some ((wr.drewN nq).alloc o).heap.size) (ho : ∀ q, l.ownBlock = some q → gf < q) : ∀ q, v.ownBlock = some q → gf < q := by
  intro q hq
  rcases ha with h | h
  · exact ho q (by rw [← h]; exact hq)
  · rw [h] at hq; injection hq with hq; simp at hq; omega
end
/-- what is read of three registers, by three bits, up to the k-th -/
def rdU (x : Int × Int × Int) (a b c : Int) : Nat → List Int
  | 0 => []
  | 1 => if x.1 = 0 then [] else [a]
  | 2 => (if x.1 = 0 then [] else [a]) ++ (if x.2.1 = 0 then [] else [b])
  | _ => (if x.1 = 0 then [] else [a]) ++ (if x.2.1 = 0 then [] else [b]) ++ (if x.2.2 = 0 then [] else [c])

theorem rdU_len (x : Int × Int × Int) (a b c : Int) (j : Nat) : (rdU x a b c j).length ≤ 3 := by
  match j with
  | 0 => simp [rdU]
  | 1 => simp only [rdU]; split <;> simp
  | 2 => simp only [rdU]; split <;> split <;> simp
  | _ + 3 => simp only [rdU]; split <;> split <;> split <;> simp
theorem rdU_0 {x : Int × Int × Int} {a b c : Int} (h : x.1 = 0) : rdU x a b c 1 = rdU x a b c 0 := by simp [rdU, h]
theorem rdU_1 {x : Int × Int × Int} {a b c : Int} (h : x.2.1 = 0) : rdU x a b c 2 = rdU x a b c 1 := by simp [rdU, h]
theorem rdU_2 {x : Int × Int × Int} {a b c : Int} (h : x.2.2 = 0) : rdU x a b c 3 = rdU x a b c 2 := by simp [rdU, h]
theorem rdU_0' {x : Int × Int × Int} {a b c : Int} (h : ¬ x.1 = 0) : rdU x a b c 1 = rdU x a b c 0 ++ [a] := by simp [rdU, h]
theorem rdU_1' {x : Int × Int × Int} {a b c : Int} (h : ¬ x.2.1 = 0) : rdU x a b c 2 = rdU x a b c 1 ++ [b] := by simp [rdU, h]
theorem rdU_2' {x : Int × Int × Int} {a b c : Int} (h : ¬ x.2.2 = 0) : rdU x a b c 3 = rdU x a b c 2 ++ [c] := by simp [rdU, h]
/-- a row of numbers with one number more -/
theorem own_snoc {w : World} {base : Nat} {e : TypeId} {v : Value} {n : Nat} {l : List Int} {x : Int} (h : w.ownsRow base e 1 v (n + 1) (numV l ++ [.int .i64 x])) (hn : n = l.length) : w.ownsRow base e 1 v (l ++ [x]).length (numV (l ++ [x])) := by
  subst hn; simpa [numV] using h

set_option maxRecDepth 100000 in
set_option maxHeartbeats 2000000 in
theorem read_any (k d a b c n g : Int) (hk1 : 1 ≤ k) (hk2 : k ≤ 25) (x : Int × Int × Int) (e0 : bits .and .i64 (usesK k) 2 = x.1) (e1 : bits .and .i64 (usesK k) 4 = x.2.1) (e2 : bits .and .i64 (usesK k) 8 = x.2.2) (w : World) (V : Env w) :
    Calls Tryd.prog 104 #[.agg #[.int .i64 k, .int .i64 d, .int .i64 a, .int .i64 b, .int .i64 c, .int .i64 n, .int .i64 g]] w
      fun e w' => ∃ v, e = .returned v ∧ w'.ownsRow 0 3 1 v (rdU x a b c 3).length (numV (rdU x a b c 3)) ∧ Below w.heap.size w w' := by
  obtain ⟨us, hus⟩ : ∃ us, us = usesK k := ⟨_, rfl⟩
  rw [← hus] at e0 e1 e2
  have HV := Lib.hid V
  have HU := Lib.hid hus
  have HE0 := Lib.hid e0
  have HE1 := Lib.hid e1
  have HE2 := Lib.hid e2
  clear V hus e0 e1 e2
  go_enter Tryd.func104, Tryd.ntmps104
  go_wp2_with (go_at_call 111; refine (of_any k hk1 hk2 _ (HV.out.below ((Below.refl _ _).alloc (Nat.le_refl _) _))).mono ?_; rintro e w1 ⟨rfl, hb⟩; (rw [← HU.out]); have xc2 := cell_box hb 2 (.int .i64 a) rfl; have xc3 := cell_box hb 3 (.int .i64 b) rfl; have xc4 := cell_box hb 4 (.int .i64 c) rfl; have bcs := box_lt hb; have bne : w.heap.size ≠ w1.heap.size := (by omega); have HB := Lib.hid hb; clear hb)
  -- LOOP
  have q0 : (w1.alloc (.cells #[Value.int .i64 us, .int .i64 (classK k), .string (nameK k)] 160)).cell? ⟨w1.heap.size, 0, none⟩ = some (.int .i64 us) := ((Blk.new w1 160 #[Value.int .i64 us, .int .i64 (classK k), .string (nameK k)]).cell 0).trans rfl
  have q1 : Below w.heap.size w (w1.alloc (.cells #[Value.int .i64 us, .int .i64 (classK k), .string (nameK k)] 160)) := (bel_box HB.out).alloc (bel_box HB.out).size _
  have q2 : w1.heap.size < (w1.alloc (.cells #[Value.int .i64 us, .int .i64 (classK k), .string (nameK k)] 160)).heap.size := by simp
  obtain ⟨wo, hwo⟩ : ∃ wo, wo = w1.alloc (.cells #[Value.int .i64 us, .int .i64 (classK k), .string (nameK k)] 160) := ⟨_, rfl⟩
  rw [← hwo] at q0 q1 q2 ⊢
  have HQ0 := Lib.hid q0
  have HQ1 := Lib.hid q1
  obtain ⟨gf, hgf⟩ : ∃ gf, gf = w1.heap.size := ⟨_, rfl⟩
  rw [← hgf] at HQ0 q2 ⊢
  have hgw : w.heap.size ≤ gf := by omega
  clear q0 q1 hwo xc2 xc3 xc4 HB bne bcs hgf HV HU
  obtain ⟨i0, hi, hz0, hz1, hz2⟩ := info_parts int_info
  have i0f : ∀ (W : World), (Instr.index 178 (.agg #[.int .i64 a, .int .i64 b, .int .i64 c]) (.int .i64 0)).run Tryd.prog W = .ok (.int .i64 a) W := fun _ => by kernel_rfl
  have i1f : ∀ (W : World), (Instr.index 178 (.agg #[.int .i64 a, .int .i64 b, .int .i64 c]) (.int .i64 1)).run Tryd.prog W = .ok (.int .i64 b) W := fun _ => by kernel_rfl
  have i2f : ∀ (W : World), (Instr.index 178 (.agg #[.int .i64 a, .int .i64 b, .int .i64 c]) (.int .i64 2)).run Tryd.prog W = .ok (.int .i64 c) W := fun _ => by kernel_rfl
  go_loopw [5, 21] (fun l i wr => ∃ j : Nat, j ≤ 3 ∧ i = .int .i64 j ∧ (∃ A cc, l = .slice A (rdU x a b c j).length cc) ∧ wr.ownsRow 0 3 1 l (rdU x a b c j).length (numV (rdU x a b c j)) ∧ Below w.heap.size w wr ∧ wr.cell? ⟨gf, 0, none⟩ = some (.int .i64 us) ∧ gf < wr.heap.size ∧ ∀ q, l.ownBlock = some q → gf < q) (fun _ i _ => 3 - (intOf i).toNat)
  case atStart => exact ⟨0, by omega, rfl, ⟨_, _, rfl⟩, World.ownsRow_nil _ _ _ _, HQ1.out, HQ0.out, q2, fun q hq => by simp [Value.ownBlock] at hq⟩
  case round =>
    obtain ⟨j, hj, rfl, ⟨A, cc, rfl⟩, hown, hbw, hcf, hsz, hob⟩ := hrel
    have HO := Lib.hid hown
    have HBW := Lib.hid hbw
    have HOB := Lib.hid hob
    clear hown hbw hob
    have hj' : j = 0 ∨ j = 1 ∨ j = 2 ∨ j = 3 := by omega
    rcases hj' with rfl | rfl | rfl | rfl
    · have e0 := HE0.out
      obtain ⟨rj, hrj⟩ : ∃ rj, rj = rdU x a b c 0 := ⟨_, rfl⟩
      have hlen : rj.length ≤ 3 := by rw [hrj]; exact rdU_len ..
      rw [← hrj] at HO HOB ⊢
      by_cases hz : x.1 = 0
      · have HR := Lib.hid ((rdU_0 (a := a) (b := b) (c := c) hz).trans hrj.symm)
        rw [hz] at e0
        clear hz hrj
        go_wp2
        go_quiet (fail)
        go_wp2
        go_roundw
        case rel => exact ⟨1, by omega, by go_num, ⟨A, cc, by rw [HR.out]⟩, by rw [HR.out]; exact HO.out, pw_drew HBW.out _, hcf, hsz, HOB.out⟩
        case measure => simp [intOf]
      · have HR := Lib.hid ((rdU_0' (a := a) (b := b) (c := c) hz).trans (by rw [← hrj]))
        obtain ⟨xv, hxv⟩ : ∃ xv, xv = x.1 := ⟨_, rfl⟩
        rw [← hxv] at e0 hz
        clear hrj hxv
        go_wp2
        go_quiet (fail)
        go_wp2_with (at_builtin; refine wpList_append_own_at _ rfl (.tmp 31) (.tmp 33) 22 rfl 0 3 i0 (.int .i64 0) 1 8 Tryd.underlying22 hi hz0 hz1 hz2 rfl (by decide) (.slice A rj.length cc) rj.length (numV rj) rfl ?co ⟨wr.heap.size, 0, none⟩ 1 1 [.int .i64 a] rfl rfl ?c1 ?c2 ?c3 ?c4 ?c5 ?_; (case co => exact own_fr (M := fun _ => False) HO.out (((Fr.refl _ wr).drewN nq).alloc _) (fun _ _ => not_false)); (case c1 => exact cell_new (wr.drewN nq) _ rfl _ _); (case c2 => exact one_mem rfl); (case c3 => (unfold maxLen; omega)); (case c4 => omega); (case c5 => exact Nat.zero_le _); intro v' w2 hown1 hg1 _hx hat1; obtain ⟨A1, c1, rfl⟩ := own_shape hown1; have HO1 := Lib.hid hown1; have HG1 := Lib.hid hg1; have HA1 := Lib.hid hat1; clear hown1 hg1 hat1 _hx)
        go_roundw
        case rel => exact ⟨1, by omega, by go_num, ⟨A1, c1, by rw [HR.out]; simp⟩, by rw [HR.out]; exact own_snoc HO1.out rfl, app_bel HBW.out hgw HG1.out HOB.out, app_cell hcf hsz HG1.out HOB.out, app_lt hsz HG1.out, app_ob hsz HA1.out HOB.out⟩
        case measure => simp [intOf]
    · have e1 := HE1.out
      obtain ⟨rj, hrj⟩ : ∃ rj, rj = rdU x a b c 1 := ⟨_, rfl⟩
      have hlen : rj.length ≤ 3 := by rw [hrj]; exact rdU_len ..
      rw [← hrj] at HO HOB ⊢
      by_cases hz : x.2.1 = 0
      · have HR := Lib.hid ((rdU_1 (a := a) (b := b) (c := c) hz).trans hrj.symm)
        rw [hz] at e1
        clear hz hrj
        go_wp2
        go_quiet (fail)
        go_wp2
        go_roundw
        case rel => exact ⟨2, by omega, by go_num, ⟨A, cc, by rw [HR.out]⟩, by rw [HR.out]; exact HO.out, pw_drew HBW.out _, hcf, hsz, HOB.out⟩
        case measure => simp [intOf]
      · have HR := Lib.hid ((rdU_1' (a := a) (b := b) (c := c) hz).trans (by rw [← hrj]))
        obtain ⟨xv, hxv⟩ : ∃ xv, xv = x.2.1 := ⟨_, rfl⟩
        rw [← hxv] at e1 hz
        clear hrj hxv
        go_wp2
        go_quiet (fail)
        go_wp2_with (at_builtin; refine wpList_append_own_at _ rfl (.tmp 31) (.tmp 33) 22 rfl 0 3 i0 (.int .i64 0) 1 8 Tryd.underlying22 hi hz0 hz1 hz2 rfl (by decide) (.slice A rj.length cc) rj.length (numV rj) rfl ?co ⟨wr.heap.size, 0, none⟩ 1 1 [.int .i64 b] rfl rfl ?c1 ?c2 ?c3 ?c4 ?c5 ?_; (case co => exact own_fr (M := fun _ => False) HO.out (((Fr.refl _ wr).drewN nq).alloc _) (fun _ _ => not_false)); (case c1 => exact cell_new (wr.drewN nq) _ rfl _ _); (case c2 => exact one_mem rfl); (case c3 => (unfold maxLen; omega)); (case c4 => omega); (case c5 => exact Nat.zero_le _); intro v' w2 hown1 hg1 _hx hat1; obtain ⟨A1, c1, rfl⟩ := own_shape hown1; have HO1 := Lib.hid hown1; have HG1 := Lib.hid hg1; have HA1 := Lib.hid hat1; clear hown1 hg1 hat1 _hx)
        go_roundw
        case rel => exact ⟨2, by omega, by go_num, ⟨A1, c1, by rw [HR.out]; simp⟩, by rw [HR.out]; exact own_snoc HO1.out rfl, app_bel HBW.out hgw HG1.out HOB.out, app_cell hcf hsz HG1.out HOB.out, app_lt hsz HG1.out, app_ob hsz HA1.out HOB.out⟩
        case measure => simp [intOf]
    · have e2 := HE2.out
      obtain ⟨rj, hrj⟩ : ∃ rj, rj = rdU x a b c 2 := ⟨_, rfl⟩
      have hlen : rj.length ≤ 3 := by rw [hrj]; exact rdU_len ..
      rw [← hrj] at HO HOB ⊢
      by_cases hz : x.2.2 = 0
      · have HR := Lib.hid ((rdU_2 (a := a) (b := b) (c := c) hz).trans hrj.symm)
        rw [hz] at e2
        clear hz hrj
        go_wp2
        go_quiet (fail)
        go_wp2
        go_roundw
        case rel => exact ⟨3, by omega, by go_num, ⟨A, cc, by rw [HR.out]⟩, by rw [HR.out]; exact HO.out, pw_drew HBW.out _, hcf, hsz, HOB.out⟩
        case measure => simp [intOf]
      · have HR := Lib.hid ((rdU_2' (a := a) (b := b) (c := c) hz).trans (by rw [← hrj]))
        obtain ⟨xv, hxv⟩ : ∃ xv, xv = x.2.2 := ⟨_, rfl⟩
        rw [← hxv] at e2 hz
        clear hrj hxv
        go_wp2
        go_quiet (fail)
        go_wp2_with (at_builtin; refine wpList_append_own_at _ rfl (.tmp 31) (.tmp 33) 22 rfl 0 3 i0 (.int .i64 0) 1 8 Tryd.underlying22 hi hz0 hz1 hz2 rfl (by decide) (.slice A rj.length cc) rj.length (numV rj) rfl ?co ⟨wr.heap.size, 0, none⟩ 1 1 [.int .i64 c] rfl rfl ?c1 ?c2 ?c3 ?c4 ?c5 ?_; (case co => exact own_fr (M := fun _ => False) HO.out (((Fr.refl _ wr).drewN nq).alloc _) (fun _ _ => not_false)); (case c1 => exact cell_new (wr.drewN nq) _ rfl _ _); (case c2 => exact one_mem rfl); (case c3 => (unfold maxLen; omega)); (case c4 => omega); (case c5 => exact Nat.zero_le _); intro v' w2 hown1 hg1 _hx hat1; obtain ⟨A1, c1, rfl⟩ := own_shape hown1; have HO1 := Lib.hid hown1; have HG1 := Lib.hid hg1; have HA1 := Lib.hid hat1; clear hown1 hg1 hat1 _hx)
        go_roundw
        case rel => exact ⟨3, by omega, by go_num, ⟨A1, c1, by rw [HR.out]; simp⟩, by rw [HR.out]; exact own_snoc HO1.out rfl, app_bel HBW.out hgw HG1.out HOB.out, app_cell hcf hsz HG1.out HOB.out, app_lt hsz HG1.out, app_ob hsz HA1.out HOB.out⟩
        case measure => simp [intOf]
    · go_wp2
      go_ret
      exact ⟨_, rfl, HO.out, HBW.out⟩
end Go.Proofs.YtfkjkdoloamakaaDoor

/- What element of package run computes: where an element lies, or the number with which it traps. -/
namespace Go.Proofs.YtfkjkdoloamakaaDoor
open Go.RowKit
set_option linter.unusedVariables false
variable {F : Nat → Prop} {w0 w : World} {M0 : Nat → Prop} {p : Nat} {U : UnS} {s : St}

theorem own_form {w : World} {base : Nat} {e : TypeId} {size n : Nat} {v : Value} {xs : List Value} (h : w.ownsRow base e size v n xs) (h0 : 0 < n) : ∃ g cap, v = .slice (some ⟨g, 0, none⟩) n cap := by
  rcases h.2 with ⟨_, h1⟩ | ⟨g, cap, cur, h1, _⟩
  · omega
  · exact ⟨g, cap, h1⟩
theorem own_cells {w : World} {v : Value} {l : List Int} (h : w.ownsRow 0 3 1 v l.length (numV l)) : ∃ A c, v = .slice A l.length c ∧ (0 < l.length → ∃ g, A = some ⟨g, 0, none⟩ ∧ ∀ j (hj : j < l.length), w.cell? ⟨g, j, none⟩ = some (.int .i64 l[j])) := by
  by_cases h0 : 0 < l.length
  · obtain ⟨g, cap, rfl⟩ := own_form h h0
    refine ⟨_, cap, rfl, fun _ => ⟨g, rfl, fun j hj => ?_⟩⟩
    rw [h.cellAt j (by simpa using hj)]
    simp [numV, hj]
  · obtain ⟨A, c, rfl⟩ := own_shape h
    exact ⟨A, c, rfl, fun h1 => absurd h1 h0⟩
theorem read_arr (o : OpI) (ho : o.k = 16 ∨ o.k = 25 ∨ o.k = 17) (w : World) (V : Env w) :
    Calls Tryd.prog 104 #[opV o] w fun e w' => ∃ A c, e = .returned (.slice A (readsArr o).length c) ∧ (0 < (readsArr o).length → ∃ g, A = some ⟨g, 0, none⟩ ∧ ∀ j (hj : j < (readsArr o).length), w'.cell? ⟨g, j, none⟩ = some (.int .i64 (readsArr o)[j])) ∧ Below w.heap.size w w' := by
  obtain ⟨k, d, a, b, c, n, g⟩ := o
  simp only at ho
  rcases ho with rfl | rfl | rfl
  · refine (read_any 16 d a b c n g (by omega) (by omega) (2, 0, 0) (by kernel_rfl) (by kernel_rfl) (by kernel_rfl) w V).mono ?_
    rintro e w' ⟨v, rfl, ho, hb⟩
    obtain ⟨A, cc, rfl, hc⟩ := own_cells ho
    exact ⟨A, cc, rfl, hc, hb⟩
  · refine (read_any 25 d a b c n g (by omega) (by omega) (2, 0, 0) (by kernel_rfl) (by kernel_rfl) (by kernel_rfl) w V).mono ?_
    rintro e w' ⟨v, rfl, ho, hb⟩
    obtain ⟨A, cc, rfl, hc⟩ := own_cells ho
    exact ⟨A, cc, rfl, hc, hb⟩
  · refine (read_any 17 d a b c n g (by omega) (by omega) (2, 4, 0) (by kernel_rfl) (by kernel_rfl) (by kernel_rfl) w V).mono ?_
    rintro e w' ⟨v, rfl, ho, hb⟩
    obtain ⟨A, cc, rfl, hc⟩ := own_cells ho
    exact ⟨A, cc, rfl, hc, hb⟩

theorem arrV_at : ∀ (gs : List Nat) (ls : List (List Int)) (_ : gs.length = ls.length) (i : Nat) (_ : i < ls.length), (arrV gs ls)[i]? = some (ownRow (gs.getD i 0) (ls.getD i []).length)
  | g :: gs, l :: ls, h, 0, _ => rfl
  | g :: gs, l :: ls, h, i + 1, hi => by
    simp only [arrV, List.getElem?_cons_succ, List.getD_cons_succ]
    exact arrV_at gs ls (by simpa using h) i (by simpa using hi)
  | [], [], _, i, hi => absurd hi (by simp)
section
variable {y : Lay} {L : EngL} (h : Eng y F w p U s L)
include h
theorem arr_at {n : Int} (h0 : 0 ≤ n) (h1 : n < s.arrs.length) : ∃ gv c, L.va = .slice (some ⟨gv, 0, none⟩) s.arrs.length c ∧ w.cell? ⟨gv, n.toNat, none⟩ = some (.slice (some ⟨L.ga.getD n.toNat 0, 0, none⟩) (s.arr n).length (s.arr n).length) := by
  obtain ⟨gv, c, e⟩ := own_form h.arrs (by omega)
  have ho := h.arrs
  rw [e] at ho
  exact ⟨gv, c, e, by rw [ho.cellAt n.toNat (by omega), arrV_at _ _ h.ga _ (by omega)]; rfl⟩
theorem inner_at {n i : Int} (h0 : 0 ≤ n) (h1 : n < s.arrs.length) (i0 : 0 ≤ i) (i1 : i < (s.arr n).length) : w.cell? ⟨L.ga.getD n.toNat 0, i.toNat, none⟩ = some (.int .i64 ((s.arr n).getD i.toNat 0)) ∧ w.frozen? ⟨L.ga.getD n.toNat 0, i.toNat, none⟩ = false := by
  have hb := h.inner n.toNat (by omega)
  have e : s.arrs[n.toNat]'(by omega) = s.arr n := by unfold St.arr; rw [List.getD_eq_getElem?_getD, List.getElem?_eq_getElem (by omega)]; rfl
  rw [e] at hb
  refine ⟨?_, hb.frozen _⟩
  rw [hb.cell, List.getElem?_toArray, List.getD_eq_getElem?_getD]
  have : i.toNat < (s.arr n).length := by omega
  simp [numV, this]
end
theorem readsArr_mem (o : OpI) {R : Int} (ha : inR o.a R) (hb : inR o.b R) : ∀ r ∈ readsArr o, 0 ≤ r ∧ r < R := by
  intro r hr
  unfold readsArr at hr
  split at hr
  · simp at hr; rcases hr with rfl | rfl
    · exact ha
    · exact hb
  · simp at hr; subst hr; exact ha
theorem readsArr_len (o : OpI) : (readsArr o).length ≤ 8 := by unfold readsArr; split <;> simp

set_option maxRecDepth 100000 in
set_option maxHeartbeats 2000000 in
theorem element_any (S : StGood U s) (G : UnGood U) {L : EngL} (E : Eng layP F w p U s L) (o : OpI) (ho : o.k = 16 ∨ o.k = 25 ∨ o.k = 17) (hO : OpGood U o) (V : Env w) (t : Int) (ht : elemT s o = t) :
    Calls Tryd.prog 119 #[.pointer (some ⟨p, 0, none⟩), opV o] w fun e w' => e = .returned (.tuple #[if t = 0 then .pointer (some ⟨L.ga.getD o.n.toNat 0, (s.reg o.a).1.toNat, none⟩) else .pointer none, .int .i64 t]) ∧ Below w.heap.size w w' := by
  have hRA : ∀ w1, Env w1 → _ := fun w1 V1 => read_arr o ho w1 V1
  obtain ⟨n0, n1⟩ := hO.arr (by omega)
  have hr := S.regs
  have ha0 := hO.a.1
  have ha1 : o.a < s.regs.length := by rw [hr]; exact hO.a.2
  have hmem := readsArr_mem o (R := (s.regs.length : Int)) (by rw [hr]; exact hO.a) (by rw [hr]; exact hO.b)
  have hal : (s.arr o.n).length ≤ 65536 := by
    unfold St.arr
    rw [List.getD_eq_getElem?_getD]
    cases h : s.arrs[o.n.toNat]? with
    | none => simp
    | some l => exact S.alen l (List.mem_of_getElem? h)
  have hns : s.arrs.length ≤ 16 := by rw [S.arrs]; exact G.ns
  have hn1 : o.n < s.arrs.length := by rw [S.arrs]; exact n1
  have hrl : s.regs.length ≤ 4096 := by have := G.r2; omega
  have hlen := readsArr_len o
  obtain ⟨k, d, a, b, c, n, g⟩ := o
  simp only at n0 hn1 ha0 ha1 hal
  obtain ⟨l, hl⟩ : ∃ l, l = readsArr ⟨k, d, a, b, c, n, g⟩ := ⟨_, rfl⟩
  obtain ⟨bd, hbd⟩ : ∃ bd, bd = badOf s.regs l := ⟨_, rfl⟩
  obtain ⟨iv, hiv⟩ : ∃ iv, iv = (s.reg a).1 := ⟨_, rfl⟩
  obtain ⟨al, hale⟩ : ∃ al, al = (s.arr n).length := ⟨_, rfl⟩
  have ht' : (if bd ≠ 0 then bd else if iv < 0 ∨ (al : Int) ≤ iv then -1 else 0) = t := by rw [hbd, hiv, hale, hl]; exact ht
  rw [← hl] at hmem hlen
  have HE := Lib.hid E
  have HV := Lib.hid V
  have HM := Lib.hid hmem
  have HBD := Lib.hid hbd
  have HIV := Lib.hid hiv
  have HAL := Lib.hid hale
  have HRA : Hid (∀ w1, Env w1 → Calls Tryd.prog 104 #[opV ⟨k, d, a, b, c, n, g⟩] w1 fun e w' => ∃ A c, e = .returned (.slice A l.length c) ∧ (0 < l.length → ∃ g, A = some ⟨g, 0, none⟩ ∧ ∀ j (hj : j < l.length), w'.cell? ⟨g, j, none⟩ = some (.int .i64 l[j])) ∧ Below w1.heap.size w1 w') := by
    intro w1 V1; rw [hl]; exact hRA w1 V1
  show Calls Tryd.prog 119 #[.pointer (some ⟨p, 0, none⟩), .agg #[.int .i64 k, .int .i64 d, .int .i64 a, .int .i64 b, .int .i64 c, .int .i64 n, .int .i64 g]] w fun e w' => e = .returned (.tuple #[if t = 0 then .pointer (some ⟨L.ga.getD n.toNat 0, (s.reg a).1.toNat, none⟩) else .pointer none, .int .i64 t]) ∧ Below w.heap.size w w'
  rw [← HIV.out]
  rw [← HAL.out] at hal
  clear hRA E V hmem hl hbd hiv hale ht hO ho S G n1 hr
  by_cases h0 : bd = 0
  · by_cases hi : iv < 0
    · have e1 : t = -1 := by rw [← ht', if_neg (fun h => h h0), if_pos (.inl hi)]
      subst e1
      subst h0
      clear ht'
      go_enter Tryd.func119, Tryd.ntmps119
      go_wp2_with (first
        | (go_at_call 104; refine (HRA.out _ (HV.out.below ((Below.refl _ _).alloc (Nat.le_refl _) _))).mono ?_; rintro e w1 ⟨A, cc, rfl, hcell, hb⟩; have E1 := HE.out.below (bel_box hb); have c6 := P6 E1; have c8 := P8 E1; obtain ⟨gv, cv, hva, carr⟩ := arr_at E1 n0 hn1; (rw [hva] at c8); (rw [← HAL.out] at carr); have r0 := reg0 E1 ha0 ha1; (rw [← HIV.out] at r0); have xc2 := cell_box hb 2 (.int .i64 a) rfl; have xc5 := cell_box hb 5 (.int .i64 n) rfl; have HE1 := Lib.hid E1; have HB := Lib.hid hb; have HC := Lib.hid hcell; clear hb E1 hcell hva)
        | (go_at_call 98; refine (bad_any HE1.out _ _ l HC.out HM.out hlen).mono ?_; rintro e w2 ⟨rfl, rfl⟩; (rw [← HBD.out])))
      go_quiet (fail)
      go_wp2_with fail
      go_quiet (fail)
      go_wp2
      go_ret2
      exact ⟨rfl, pw_drew (bel_box HB.out) _⟩
    by_cases hi2 : (al : Int) ≤ iv
    · have e1 : t = -1 := by rw [← ht', if_neg (fun h => h h0), if_pos (.inr hi2)]
      subst e1
      subst h0
      clear ht'
      go_enter Tryd.func119, Tryd.ntmps119
      go_wp2_with (first
        | (go_at_call 104; refine (HRA.out _ (HV.out.below ((Below.refl _ _).alloc (Nat.le_refl _) _))).mono ?_; rintro e w1 ⟨A, cc, rfl, hcell, hb⟩; have E1 := HE.out.below (bel_box hb); have c6 := P6 E1; have c8 := P8 E1; obtain ⟨gv, cv, hva, carr⟩ := arr_at E1 n0 hn1; (rw [hva] at c8); (rw [← HAL.out] at carr); have r0 := reg0 E1 ha0 ha1; (rw [← HIV.out] at r0); have xc2 := cell_box hb 2 (.int .i64 a) rfl; have xc5 := cell_box hb 5 (.int .i64 n) rfl; have HE1 := Lib.hid E1; have HB := Lib.hid hb; have HC := Lib.hid hcell; clear hb E1 hcell hva)
        | (go_at_call 98; refine (bad_any HE1.out _ _ l HC.out HM.out hlen).mono ?_; rintro e w2 ⟨rfl, rfl⟩; (rw [← HBD.out])))
      go_quiet (fail)
      go_wp2_with fail
      go_quiet (fail)
      go_wp2
      go_ret2
      exact ⟨rfl, pw_drew (bel_box HB.out) _⟩
    · have e1 : t = 0 := by rw [← ht', if_neg (fun h => h h0), if_neg (by omega)]
      subst e1
      subst h0
      simp only [if_true]
      obtain ⟨i0, i1⟩ : 0 ≤ iv ∧ iv < al := by omega
      clear ht' hi hi2
      go_enter Tryd.func119, Tryd.ntmps119
      go_wp2_with (first
        | (go_at_call 104; refine (HRA.out _ (HV.out.below ((Below.refl _ _).alloc (Nat.le_refl _) _))).mono ?_; rintro e w1 ⟨A, cc, rfl, hcell, hb⟩; have E1 := HE.out.below (bel_box hb); have c6 := P6 E1; have c8 := P8 E1; obtain ⟨gv, cv, hva, carr⟩ := arr_at E1 n0 hn1; (rw [hva] at c8); (rw [← HAL.out] at carr); have r0 := reg0 E1 ha0 ha1; (rw [← HIV.out] at r0); have xc2 := cell_box hb 2 (.int .i64 a) rfl; have xc5 := cell_box hb 5 (.int .i64 n) rfl; have HE1 := Lib.hid E1; have HB := Lib.hid hb; have HC := Lib.hid hcell; clear hb E1 hcell hva)
        | (go_at_call 98; refine (bad_any HE1.out _ _ l HC.out HM.out hlen).mono ?_; rintro e w2 ⟨rfl, rfl⟩; (rw [← HBD.out])))
      go_quiet (fail)
      go_wp2_with fail
      go_quiet (fail)
      go_wp2
      go_ret2
      exact ⟨rfl, pw_drew (bel_box HB.out) _⟩
  · have e1 : t = bd := by rw [← ht', if_pos h0]
    rw [e1, if_neg h0]
    clear ht' e1
    have tok : True := trivial
    · go_enter Tryd.func119, Tryd.ntmps119
      go_wp2_with (first
        | (go_at_call 104; refine (HRA.out _ (HV.out.below ((Below.refl _ _).alloc (Nat.le_refl _) _))).mono ?_; rintro e w1 ⟨A, cc, rfl, hcell, hb⟩; have E1 := HE.out.below (bel_box hb); have c6 := P6 E1; have c8 := P8 E1; obtain ⟨gv, cv, hva, carr⟩ := arr_at E1 n0 hn1; (rw [hva] at c8); (rw [← HAL.out] at carr); have r0 := reg0 E1 ha0 ha1; (rw [← HIV.out] at r0); have xc2 := cell_box hb 2 (.int .i64 a) rfl; have xc5 := cell_box hb 5 (.int .i64 n) rfl; have HE1 := Lib.hid E1; have HB := Lib.hid hb; have HC := Lib.hid hcell; clear hb E1 hcell hva)
        | (go_at_call 98; refine (bad_any HE1.out _ _ l HC.out HM.out hlen).mono ?_; rintro e w2 ⟨rfl, rfl⟩; (rw [← HBD.out])))
      go_ret2
      exact ⟨rfl, bel_box HB.out⟩
end Go.Proofs.YtfkjkdoloamakaaDoor
