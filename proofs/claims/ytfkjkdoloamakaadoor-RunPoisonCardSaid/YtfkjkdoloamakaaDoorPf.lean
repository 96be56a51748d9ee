/- The checker of package code: what it says of any operation and any end. -/
import Derived.Test.YtfkjkdoloamakaaDoorPb
import Derived.Test.YtfkjkdoloamakaaDoorPc
import Derived.Test.YtfkjkdoloamakaaDoorPd
import Derived.Test.YtfkjkdoloamakaaDoorPe
namespace Go.Proofs.YtfkjkdoloamakaaDoor
open Go.RowKit
set_option linter.unusedVariables false
set_option linter.unusedSimpArgs false
variable {w : World} {c : Nat} {U : UnS} {Av Ab : Option Addr} {cv cb : Nat}
instance (n k : Int) : Decidable (inR n k) := inferInstanceAs (Decidable (_ ∧ _))
/-- the bound of an operation's N, or -1 -/
def topOf (U : UnS) (u : Int) : Int :=
  if bits .and .i64 u 32 ≠ 0 then U.sizes.length else if bits .and .i64 u 64 ≠ 0 then U.spill else if bits .and .i64 u 128 ≠ 0 then U.blocks.length else -1
/-- the error of an operation -/
def opErr (U : UnS) (o : OpI) : Int :=
  if ¬ (1 ≤ o.k ∧ o.k ≤ 25) then 4
  else if (bits .and .i64 (usesK o.k) 1 ≠ 0 ∧ ¬ inR o.d U.regs) ∨ (bits .and .i64 (usesK o.k) 2 ≠ 0 ∧ ¬ inR o.a U.regs) ∨ (bits .and .i64 (usesK o.k) 4 ≠ 0 ∧ ¬ inR o.b U.regs) ∨ (bits .and .i64 (usesK o.k) 8 ≠ 0 ∧ ¬ inR o.c U.regs) ∨ ¬ (o.g = -1 ∨ inR o.g U.regs) then 2
  else if bits .and .i64 (usesK o.k) 224 ≠ 0 ∧ ¬ inR o.n (topOf U (usesK o.k)) then 5
  else if (bits .and .i64 (usesK o.k) 1 = 0 ∧ o.d ≠ 0) ∨ (bits .and .i64 (usesK o.k) 2 = 0 ∧ o.a ≠ 0) ∨ (bits .and .i64 (usesK o.k) 4 = 0 ∧ o.b ≠ 0) ∨ (bits .and .i64 (usesK o.k) 8 = 0 ∧ o.c ≠ 0) ∨ (bits .and .i64 (usesK o.k) 240 = 0 ∧ o.n ≠ 0) then 4
  else 0
/-- the error of an end -/
def edErr (U : UnS) (e : EdS) : Int :=
  if ¬ (1 ≤ e.k ∧ e.k ≤ 4) then 4
  else if e.k ≠ 1 ∧ ¬ inR e.a U.regs then 2
  else if (e.k ≤ 2 ∧ ¬ inR e.t U.blocks.length) ∨ (e.k = 2 ∧ ¬ inR e.l U.blocks.length) then 5
  else if (e.k = 1 ∧ e.a ≠ 0) ∨ (2 < e.k ∧ e.t ≠ 0) ∨ (e.k ≠ 2 ∧ e.l ≠ 0) then 4
  else 0
/-- how a part of the checker ends -/
def OutP (e : Int) (x : Ending) : Prop := if e = 0 then x = .returned (.tuple #[]) else Died e x
theorem outD {e e' : Int} (h : e = e') (h0 : e' ≠ 0) {f : Nat} {args : Array Value} (hc : Calls Tryd.prog f args w fun x w' => Died e' x ∧ Below w.heap.size w w') : Calls Tryd.prog f args w fun x w' => OutP e x ∧ Below w.heap.size w w' :=
  hc.mono fun x w' ⟨h1, h2⟩ => ⟨by unfold OutP; rw [h, if_neg h0]; exact h1, h2⟩
theorem out0 {e : Int} (h : e = 0) {f : Nat} {args : Array Value} (hc : Calls Tryd.prog f args w fun x w' => x = .returned (.tuple #[]) ∧ Below w.heap.size w w') : Calls Tryd.prog f args w fun x w' => OutP e x ∧ Below w.heap.size w w' :=
  hc.mono fun x w' ⟨h1, h2⟩ => ⟨by unfold OutP; rw [if_pos h]; exact h1, h2⟩
theorem notin {n k : Int} (h : ¬ inR n k) : n < 0 ∨ k ≤ n := by
  rcases Int.lt_or_le n 0 with h0 | h0
  · exact .inl h0
  · rcases Int.lt_or_le n k with h1 | h1
    · exact absurd ⟨h0, h1⟩ h
    · exact .inr h1
theorem opa_17 (k d a b r3 n g : Int) (hu : usesK k = 17) (h1 : 1 ≤ k) (h2 : k ≤ 25) (K : Ck w c U Av cv Ab cb) (KP : CkP w c) (V : Env w) (hz : U.sizes.length ≤ 16) (hbl : U.blocks.length ≤ 2000) (hsp : 0 ≤ U.spill) :
    Calls Tryd.prog 94 #[.pointer (some ⟨c, 0, none⟩), .agg #[.int .i64 k, .int .i64 d, .int .i64 a, .int .i64 b, .int .i64 r3, .int .i64 n, .int .i64 g]] w fun x w' => OutP (opErr U ⟨k, d, a, b, r3, n, g⟩) x ∧ Below w.heap.size w w' := by
  have m1 : bits .and .i64 17 1 = 1 := by decide
  have m2 : bits .and .i64 17 2 = 0 := by decide
  have m4 : bits .and .i64 17 4 = 0 := by decide
  have m8 : bits .and .i64 17 8 = 0 := by decide
  have m16 : bits .and .i64 17 16 = 16 := by decide
  have m32 : bits .and .i64 17 32 = 0 := by decide
  have m64 : bits .and .i64 17 64 = 0 := by decide
  have m128 : bits .and .i64 17 128 = 0 := by decide
  have m224 : bits .and .i64 17 224 = 0 := by decide
  have m240 : bits .and .i64 17 240 = 16 := by decide
  by_cases hq0 : inR d U.regs
  case neg =>
    have hn0 := hq0
    exact outD (e' := 2) (by simp [opErr, topOf, hu, h1, h2, m1, m2, m4, m8, m16, m32, m64, m128, m224, m240, hn0]) (by decide) (opx_17_regd k d a b r3 n g hu h1 h2 hn0 K KP V hz hbl hsp)
  by_cases hq1 : g = -1 ∨ inR g U.regs
  case neg =>
    have hn0 := hq1
    exact outD (e' := 2) (by simp [opErr, topOf, hu, h1, h2, m1, m2, m4, m8, m16, m32, m64, m128, m224, m240, hq0, hn0]) (by decide) (opx_17_gg k d a b r3 n g hu h1 h2 hq0 (fun e => hn0 (.inl e)) (fun e => hn0 (.inr e)) K KP V hz hbl hsp)
  by_cases hq2 : a = 0
  case neg =>
    have hn0 := hq2
    exact outD (e' := 4) (by simp [opErr, topOf, hu, h1, h2, m1, m2, m4, m8, m16, m32, m64, m128, m224, m240, hq0, hq1, hn0]) (by decide) (opx_17_idlea k d a b r3 n g hu h1 h2 hq0 hq1 (by simpa using hn0) K KP V hz hbl hsp)
  subst hq2
  by_cases hq3 : b = 0
  case neg =>
    have hn0 := hq3
    exact outD (e' := 4) (by simp [opErr, topOf, hu, h1, h2, m1, m2, m4, m8, m16, m32, m64, m128, m224, m240, hq0, hq1, hn0]) (by decide) (opx_17_idleb k d b r3 n g hu h1 h2 hq0 hq1 (by simpa using hn0) K KP V hz hbl hsp)
  subst hq3
  by_cases hq4 : r3 = 0
  case neg =>
    have hn0 := hq4
    exact outD (e' := 4) (by simp [opErr, topOf, hu, h1, h2, m1, m2, m4, m8, m16, m32, m64, m128, m224, m240, hq0, hq1, hn0]) (by decide) (opx_17_idlec k d r3 n g hu h1 h2 hq0 hq1 (by simpa using hn0) K KP V hz hbl hsp)
  subst hq4
  exact out0 (by simp [opErr, topOf, hu, h1, h2, m1, m2, m4, m8, m16, m32, m64, m128, m224, m240, hq0, hq1]) (op_17 k d n g hu h1 h2 hq0 hq1 K V hz hbl)

theorem opa_3 (k d a b r3 n g : Int) (hu : usesK k = 3) (h1 : 1 ≤ k) (h2 : k ≤ 25) (K : Ck w c U Av cv Ab cb) (KP : CkP w c) (V : Env w) (hz : U.sizes.length ≤ 16) (hbl : U.blocks.length ≤ 2000) (hsp : 0 ≤ U.spill) :
    Calls Tryd.prog 94 #[.pointer (some ⟨c, 0, none⟩), .agg #[.int .i64 k, .int .i64 d, .int .i64 a, .int .i64 b, .int .i64 r3, .int .i64 n, .int .i64 g]] w fun x w' => OutP (opErr U ⟨k, d, a, b, r3, n, g⟩) x ∧ Below w.heap.size w w' := by
  have m1 : bits .and .i64 3 1 = 1 := by decide
  have m2 : bits .and .i64 3 2 = 2 := by decide
  have m4 : bits .and .i64 3 4 = 0 := by decide
  have m8 : bits .and .i64 3 8 = 0 := by decide
  have m16 : bits .and .i64 3 16 = 0 := by decide
  have m32 : bits .and .i64 3 32 = 0 := by decide
  have m64 : bits .and .i64 3 64 = 0 := by decide
  have m128 : bits .and .i64 3 128 = 0 := by decide
  have m224 : bits .and .i64 3 224 = 0 := by decide
  have m240 : bits .and .i64 3 240 = 0 := by decide
  by_cases hq0 : inR d U.regs
  case neg =>
    have hn0 := hq0
    exact outD (e' := 2) (by simp [opErr, topOf, hu, h1, h2, m1, m2, m4, m8, m16, m32, m64, m128, m224, m240, hn0]) (by decide) (opx_3_regd k d a b r3 n g hu h1 h2 hn0 K KP V hz hbl hsp)
  by_cases hq1 : inR a U.regs
  case neg =>
    have hn0 := hq1
    exact outD (e' := 2) (by simp [opErr, topOf, hu, h1, h2, m1, m2, m4, m8, m16, m32, m64, m128, m224, m240, hq0, hn0]) (by decide) (opx_3_rega k d a b r3 n g hu h1 h2 hq0 hn0 K KP V hz hbl hsp)
  by_cases hq2 : g = -1 ∨ inR g U.regs
  case neg =>
    have hn0 := hq2
    exact outD (e' := 2) (by simp [opErr, topOf, hu, h1, h2, m1, m2, m4, m8, m16, m32, m64, m128, m224, m240, hq0, hq1, hn0]) (by decide) (opx_3_gg k d a b r3 n g hu h1 h2 hq0 hq1 (fun e => hn0 (.inl e)) (fun e => hn0 (.inr e)) K KP V hz hbl hsp)
  by_cases hq3 : b = 0
  case neg =>
    have hn0 := hq3
    exact outD (e' := 4) (by simp [opErr, topOf, hu, h1, h2, m1, m2, m4, m8, m16, m32, m64, m128, m224, m240, hq0, hq1, hq2, hn0]) (by decide) (opx_3_idleb k d a b r3 n g hu h1 h2 hq0 hq1 hq2 (by simpa using hn0) K KP V hz hbl hsp)
  subst hq3
  by_cases hq4 : r3 = 0
  case neg =>
    have hn0 := hq4
    exact outD (e' := 4) (by simp [opErr, topOf, hu, h1, h2, m1, m2, m4, m8, m16, m32, m64, m128, m224, m240, hq0, hq1, hq2, hn0]) (by decide) (opx_3_idlec k d a r3 n g hu h1 h2 hq0 hq1 hq2 (by simpa using hn0) K KP V hz hbl hsp)
  subst hq4
  by_cases hq5 : n = 0
  case neg =>
    have hn0 := hq5
    exact outD (e' := 4) (by simp [opErr, topOf, hu, h1, h2, m1, m2, m4, m8, m16, m32, m64, m128, m224, m240, hq0, hq1, hq2, hn0]) (by decide) (opx_3_idlen k d a n g hu h1 h2 hq0 hq1 hq2 (by simpa using hn0) K KP V hz hbl hsp)
  subst hq5
  exact out0 (by simp [opErr, topOf, hu, h1, h2, m1, m2, m4, m8, m16, m32, m64, m128, m224, m240, hq0, hq1, hq2]) (op_3 k d a g hu h1 h2 hq0 hq1 hq2 K V hz hbl)

theorem opa_7 (k d a b r3 n g : Int) (hu : usesK k = 7) (h1 : 1 ≤ k) (h2 : k ≤ 25) (K : Ck w c U Av cv Ab cb) (KP : CkP w c) (V : Env w) (hz : U.sizes.length ≤ 16) (hbl : U.blocks.length ≤ 2000) (hsp : 0 ≤ U.spill) :
    Calls Tryd.prog 94 #[.pointer (some ⟨c, 0, none⟩), .agg #[.int .i64 k, .int .i64 d, .int .i64 a, .int .i64 b, .int .i64 r3, .int .i64 n, .int .i64 g]] w fun x w' => OutP (opErr U ⟨k, d, a, b, r3, n, g⟩) x ∧ Below w.heap.size w w' := by
  have m1 : bits .and .i64 7 1 = 1 := by decide
  have m2 : bits .and .i64 7 2 = 2 := by decide
  have m4 : bits .and .i64 7 4 = 4 := by decide
  have m8 : bits .and .i64 7 8 = 0 := by decide
  have m16 : bits .and .i64 7 16 = 0 := by decide
  have m32 : bits .and .i64 7 32 = 0 := by decide
  have m64 : bits .and .i64 7 64 = 0 := by decide
  have m128 : bits .and .i64 7 128 = 0 := by decide
  have m224 : bits .and .i64 7 224 = 0 := by decide
  have m240 : bits .and .i64 7 240 = 0 := by decide
  by_cases hq0 : inR d U.regs
  case neg =>
    have hn0 := hq0
    exact outD (e' := 2) (by simp [opErr, topOf, hu, h1, h2, m1, m2, m4, m8, m16, m32, m64, m128, m224, m240, hn0]) (by decide) (opx_7_regd k d a b r3 n g hu h1 h2 hn0 K KP V hz hbl hsp)
  by_cases hq1 : inR a U.regs
  case neg =>
    have hn0 := hq1
    exact outD (e' := 2) (by simp [opErr, topOf, hu, h1, h2, m1, m2, m4, m8, m16, m32, m64, m128, m224, m240, hq0, hn0]) (by decide) (opx_7_rega k d a b r3 n g hu h1 h2 hq0 hn0 K KP V hz hbl hsp)
  by_cases hq2 : inR b U.regs
  case neg =>
    have hn0 := hq2
    exact outD (e' := 2) (by simp [opErr, topOf, hu, h1, h2, m1, m2, m4, m8, m16, m32, m64, m128, m224, m240, hq0, hq1, hn0]) (by decide) (opx_7_regb k d a b r3 n g hu h1 h2 hq0 hq1 hn0 K KP V hz hbl hsp)
  by_cases hq3 : g = -1 ∨ inR g U.regs
  case neg =>
    have hn0 := hq3
    exact outD (e' := 2) (by simp [opErr, topOf, hu, h1, h2, m1, m2, m4, m8, m16, m32, m64, m128, m224, m240, hq0, hq1, hq2, hn0]) (by decide) (opx_7_gg k d a b r3 n g hu h1 h2 hq0 hq1 hq2 (fun e => hn0 (.inl e)) (fun e => hn0 (.inr e)) K KP V hz hbl hsp)
  by_cases hq4 : r3 = 0
  case neg =>
    have hn0 := hq4
    exact outD (e' := 4) (by simp [opErr, topOf, hu, h1, h2, m1, m2, m4, m8, m16, m32, m64, m128, m224, m240, hq0, hq1, hq2, hq3, hn0]) (by decide) (opx_7_idlec k d a b r3 n g hu h1 h2 hq0 hq1 hq2 hq3 (by simpa using hn0) K KP V hz hbl hsp)
  subst hq4
  by_cases hq5 : n = 0
  case neg =>
    have hn0 := hq5
    exact outD (e' := 4) (by simp [opErr, topOf, hu, h1, h2, m1, m2, m4, m8, m16, m32, m64, m128, m224, m240, hq0, hq1, hq2, hq3, hn0]) (by decide) (opx_7_idlen k d a b n g hu h1 h2 hq0 hq1 hq2 hq3 (by simpa using hn0) K KP V hz hbl hsp)
  subst hq5
  exact out0 (by simp [opErr, topOf, hu, h1, h2, m1, m2, m4, m8, m16, m32, m64, m128, m224, m240, hq0, hq1, hq2, hq3]) (op_7 k d a b g hu h1 h2 hq0 hq1 hq2 hq3 K V hz hbl)

theorem opa_15 (k d a b r3 n g : Int) (hu : usesK k = 15) (h1 : 1 ≤ k) (h2 : k ≤ 25) (K : Ck w c U Av cv Ab cb) (KP : CkP w c) (V : Env w) (hz : U.sizes.length ≤ 16) (hbl : U.blocks.length ≤ 2000) (hsp : 0 ≤ U.spill) :
    Calls Tryd.prog 94 #[.pointer (some ⟨c, 0, none⟩), .agg #[.int .i64 k, .int .i64 d, .int .i64 a, .int .i64 b, .int .i64 r3, .int .i64 n, .int .i64 g]] w fun x w' => OutP (opErr U ⟨k, d, a, b, r3, n, g⟩) x ∧ Below w.heap.size w w' := by
  have m1 : bits .and .i64 15 1 = 1 := by decide
  have m2 : bits .and .i64 15 2 = 2 := by decide
  have m4 : bits .and .i64 15 4 = 4 := by decide
  have m8 : bits .and .i64 15 8 = 8 := by decide
  have m16 : bits .and .i64 15 16 = 0 := by decide
  have m32 : bits .and .i64 15 32 = 0 := by decide
  have m64 : bits .and .i64 15 64 = 0 := by decide
  have m128 : bits .and .i64 15 128 = 0 := by decide
  have m224 : bits .and .i64 15 224 = 0 := by decide
  have m240 : bits .and .i64 15 240 = 0 := by decide
  by_cases hq0 : inR d U.regs
  case neg =>
    have hn0 := hq0
    exact outD (e' := 2) (by simp [opErr, topOf, hu, h1, h2, m1, m2, m4, m8, m16, m32, m64, m128, m224, m240, hn0]) (by decide) (opx_15_regd k d a b r3 n g hu h1 h2 hn0 K KP V hz hbl hsp)
  by_cases hq1 : inR a U.regs
  case neg =>
    have hn0 := hq1
    exact outD (e' := 2) (by simp [opErr, topOf, hu, h1, h2, m1, m2, m4, m8, m16, m32, m64, m128, m224, m240, hq0, hn0]) (by decide) (opx_15_rega k d a b r3 n g hu h1 h2 hq0 hn0 K KP V hz hbl hsp)
  by_cases hq2 : inR b U.regs
  case neg =>
    have hn0 := hq2
    exact outD (e' := 2) (by simp [opErr, topOf, hu, h1, h2, m1, m2, m4, m8, m16, m32, m64, m128, m224, m240, hq0, hq1, hn0]) (by decide) (opx_15_regb k d a b r3 n g hu h1 h2 hq0 hq1 hn0 K KP V hz hbl hsp)
  by_cases hq3 : inR r3 U.regs
  case neg =>
    have hn0 := hq3
    exact outD (e' := 2) (by simp [opErr, topOf, hu, h1, h2, m1, m2, m4, m8, m16, m32, m64, m128, m224, m240, hq0, hq1, hq2, hn0]) (by decide) (opx_15_regc k d a b r3 n g hu h1 h2 hq0 hq1 hq2 hn0 K KP V hz hbl hsp)
  by_cases hq4 : g = -1 ∨ inR g U.regs
  case neg =>
    have hn0 := hq4
    exact outD (e' := 2) (by simp [opErr, topOf, hu, h1, h2, m1, m2, m4, m8, m16, m32, m64, m128, m224, m240, hq0, hq1, hq2, hq3, hn0]) (by decide) (opx_15_gg k d a b r3 n g hu h1 h2 hq0 hq1 hq2 hq3 (fun e => hn0 (.inl e)) (fun e => hn0 (.inr e)) K KP V hz hbl hsp)
  by_cases hq5 : n = 0
  case neg =>
    have hn0 := hq5
    exact outD (e' := 4) (by simp [opErr, topOf, hu, h1, h2, m1, m2, m4, m8, m16, m32, m64, m128, m224, m240, hq0, hq1, hq2, hq3, hq4, hn0]) (by decide) (opx_15_idlen k d a b r3 n g hu h1 h2 hq0 hq1 hq2 hq3 hq4 (by simpa using hn0) K KP V hz hbl hsp)
  subst hq5
  exact out0 (by simp [opErr, topOf, hu, h1, h2, m1, m2, m4, m8, m16, m32, m64, m128, m224, m240, hq0, hq1, hq2, hq3, hq4]) (op_15 k d a b r3 g hu h1 h2 hq0 hq1 hq2 hq3 hq4 K V hz hbl)

theorem opa_35 (k d a b r3 n g : Int) (hu : usesK k = 35) (h1 : 1 ≤ k) (h2 : k ≤ 25) (K : Ck w c U Av cv Ab cb) (KP : CkP w c) (V : Env w) (hz : U.sizes.length ≤ 16) (hbl : U.blocks.length ≤ 2000) (hsp : 0 ≤ U.spill) :
    Calls Tryd.prog 94 #[.pointer (some ⟨c, 0, none⟩), .agg #[.int .i64 k, .int .i64 d, .int .i64 a, .int .i64 b, .int .i64 r3, .int .i64 n, .int .i64 g]] w fun x w' => OutP (opErr U ⟨k, d, a, b, r3, n, g⟩) x ∧ Below w.heap.size w w' := by
  have m1 : bits .and .i64 35 1 = 1 := by decide
  have m2 : bits .and .i64 35 2 = 2 := by decide
  have m4 : bits .and .i64 35 4 = 0 := by decide
  have m8 : bits .and .i64 35 8 = 0 := by decide
  have m16 : bits .and .i64 35 16 = 0 := by decide
  have m32 : bits .and .i64 35 32 = 32 := by decide
  have m64 : bits .and .i64 35 64 = 0 := by decide
  have m128 : bits .and .i64 35 128 = 0 := by decide
  have m224 : bits .and .i64 35 224 = 32 := by decide
  have m240 : bits .and .i64 35 240 = 32 := by decide
  by_cases hq0 : inR d U.regs
  case neg =>
    have hn0 := hq0
    exact outD (e' := 2) (by simp [opErr, topOf, hu, h1, h2, m1, m2, m4, m8, m16, m32, m64, m128, m224, m240, hn0]) (by decide) (opx_35_regd k d a b r3 n g hu h1 h2 hn0 K KP V hz hbl hsp)
  by_cases hq1 : inR a U.regs
  case neg =>
    have hn0 := hq1
    exact outD (e' := 2) (by simp [opErr, topOf, hu, h1, h2, m1, m2, m4, m8, m16, m32, m64, m128, m224, m240, hq0, hn0]) (by decide) (opx_35_rega k d a b r3 n g hu h1 h2 hq0 hn0 K KP V hz hbl hsp)
  by_cases hq2 : g = -1 ∨ inR g U.regs
  case neg =>
    have hn0 := hq2
    exact outD (e' := 2) (by simp [opErr, topOf, hu, h1, h2, m1, m2, m4, m8, m16, m32, m64, m128, m224, m240, hq0, hq1, hn0]) (by decide) (opx_35_gg k d a b r3 n g hu h1 h2 hq0 hq1 (fun e => hn0 (.inl e)) (fun e => hn0 (.inr e)) K KP V hz hbl hsp)
  by_cases hq3 : inR n U.sizes.length
  case neg =>
    have hn0 := hq3
    exact outD (e' := 5) (by simp [opErr, topOf, hu, h1, h2, m1, m2, m4, m8, m16, m32, m64, m128, m224, m240, hq0, hq1, hq2, hn0]) (by decide) (opx_35_nn k d a b r3 n g hu h1 h2 hq0 hq1 hq2 (notin hn0) K KP V hz hbl hsp)
  by_cases hq4 : b = 0
  case neg =>
    have hn0 := hq4
    exact outD (e' := 4) (by simp [opErr, topOf, hu, h1, h2, m1, m2, m4, m8, m16, m32, m64, m128, m224, m240, hq0, hq1, hq2, hq3, hn0]) (by decide) (opx_35_idleb k d a b r3 n g hu h1 h2 hq0 hq1 hq2 hq3 (by simpa using hn0) K KP V hz hbl hsp)
  subst hq4
  by_cases hq5 : r3 = 0
  case neg =>
    have hn0 := hq5
    exact outD (e' := 4) (by simp [opErr, topOf, hu, h1, h2, m1, m2, m4, m8, m16, m32, m64, m128, m224, m240, hq0, hq1, hq2, hq3, hn0]) (by decide) (opx_35_idlec k d a r3 n g hu h1 h2 hq0 hq1 hq2 hq3 (by simpa using hn0) K KP V hz hbl hsp)
  subst hq5
  exact out0 (by simp [opErr, topOf, hu, h1, h2, m1, m2, m4, m8, m16, m32, m64, m128, m224, m240, hq0, hq1, hq2, hq3]) (op_35 k d a n g hu h1 h2 hq0 hq1 hq3 hq2 K V hz hbl)

theorem opa_38 (k d a b r3 n g : Int) (hu : usesK k = 38) (h1 : 1 ≤ k) (h2 : k ≤ 25) (K : Ck w c U Av cv Ab cb) (KP : CkP w c) (V : Env w) (hz : U.sizes.length ≤ 16) (hbl : U.blocks.length ≤ 2000) (hsp : 0 ≤ U.spill) :
    Calls Tryd.prog 94 #[.pointer (some ⟨c, 0, none⟩), .agg #[.int .i64 k, .int .i64 d, .int .i64 a, .int .i64 b, .int .i64 r3, .int .i64 n, .int .i64 g]] w fun x w' => OutP (opErr U ⟨k, d, a, b, r3, n, g⟩) x ∧ Below w.heap.size w w' := by
  have m1 : bits .and .i64 38 1 = 0 := by decide
  have m2 : bits .and .i64 38 2 = 2 := by decide
  have m4 : bits .and .i64 38 4 = 4 := by decide
  have m8 : bits .and .i64 38 8 = 0 := by decide
  have m16 : bits .and .i64 38 16 = 0 := by decide
  have m32 : bits .and .i64 38 32 = 32 := by decide
  have m64 : bits .and .i64 38 64 = 0 := by decide
  have m128 : bits .and .i64 38 128 = 0 := by decide
  have m224 : bits .and .i64 38 224 = 32 := by decide
  have m240 : bits .and .i64 38 240 = 32 := by decide
  by_cases hq0 : inR a U.regs
  case neg =>
    have hn0 := hq0
    exact outD (e' := 2) (by simp [opErr, topOf, hu, h1, h2, m1, m2, m4, m8, m16, m32, m64, m128, m224, m240, hn0]) (by decide) (opx_38_rega k d a b r3 n g hu h1 h2 hn0 K KP V hz hbl hsp)
  by_cases hq1 : inR b U.regs
  case neg =>
    have hn0 := hq1
    exact outD (e' := 2) (by simp [opErr, topOf, hu, h1, h2, m1, m2, m4, m8, m16, m32, m64, m128, m224, m240, hq0, hn0]) (by decide) (opx_38_regb k d a b r3 n g hu h1 h2 hq0 hn0 K KP V hz hbl hsp)
  by_cases hq2 : g = -1 ∨ inR g U.regs
  case neg =>
    have hn0 := hq2
    exact outD (e' := 2) (by simp [opErr, topOf, hu, h1, h2, m1, m2, m4, m8, m16, m32, m64, m128, m224, m240, hq0, hq1, hn0]) (by decide) (opx_38_gg k d a b r3 n g hu h1 h2 hq0 hq1 (fun e => hn0 (.inl e)) (fun e => hn0 (.inr e)) K KP V hz hbl hsp)
  by_cases hq3 : inR n U.sizes.length
  case neg =>
    have hn0 := hq3
    exact outD (e' := 5) (by simp [opErr, topOf, hu, h1, h2, m1, m2, m4, m8, m16, m32, m64, m128, m224, m240, hq0, hq1, hq2, hn0]) (by decide) (opx_38_nn k d a b r3 n g hu h1 h2 hq0 hq1 hq2 (notin hn0) K KP V hz hbl hsp)
  by_cases hq4 : d = 0
  case neg =>
    have hn0 := hq4
    exact outD (e' := 4) (by simp [opErr, topOf, hu, h1, h2, m1, m2, m4, m8, m16, m32, m64, m128, m224, m240, hq0, hq1, hq2, hq3, hn0]) (by decide) (opx_38_idled k d a b r3 n g hu h1 h2 hq0 hq1 hq2 hq3 (by simpa using hn0) K KP V hz hbl hsp)
  subst hq4
  by_cases hq5 : r3 = 0
  case neg =>
    have hn0 := hq5
    exact outD (e' := 4) (by simp [opErr, topOf, hu, h1, h2, m1, m2, m4, m8, m16, m32, m64, m128, m224, m240, hq0, hq1, hq2, hq3, hn0]) (by decide) (opx_38_idlec k a b r3 n g hu h1 h2 hq0 hq1 hq2 hq3 (by simpa using hn0) K KP V hz hbl hsp)
  subst hq5
  exact out0 (by simp [opErr, topOf, hu, h1, h2, m1, m2, m4, m8, m16, m32, m64, m128, m224, m240, hq0, hq1, hq2, hq3]) (op_38 k a b n g hu h1 h2 hq0 hq1 hq3 hq2 K V hz hbl)

theorem opa_65 (k d a b r3 n g : Int) (hu : usesK k = 65) (h1 : 1 ≤ k) (h2 : k ≤ 25) (K : Ck w c U Av cv Ab cb) (KP : CkP w c) (V : Env w) (hz : U.sizes.length ≤ 16) (hbl : U.blocks.length ≤ 2000) (hsp : 0 ≤ U.spill) :
    Calls Tryd.prog 94 #[.pointer (some ⟨c, 0, none⟩), .agg #[.int .i64 k, .int .i64 d, .int .i64 a, .int .i64 b, .int .i64 r3, .int .i64 n, .int .i64 g]] w fun x w' => OutP (opErr U ⟨k, d, a, b, r3, n, g⟩) x ∧ Below w.heap.size w w' := by
  have m1 : bits .and .i64 65 1 = 1 := by decide
  have m2 : bits .and .i64 65 2 = 0 := by decide
  have m4 : bits .and .i64 65 4 = 0 := by decide
  have m8 : bits .and .i64 65 8 = 0 := by decide
  have m16 : bits .and .i64 65 16 = 0 := by decide
  have m32 : bits .and .i64 65 32 = 0 := by decide
  have m64 : bits .and .i64 65 64 = 64 := by decide
  have m128 : bits .and .i64 65 128 = 0 := by decide
  have m224 : bits .and .i64 65 224 = 64 := by decide
  have m240 : bits .and .i64 65 240 = 64 := by decide
  by_cases hq0 : inR d U.regs
  case neg =>
    have hn0 := hq0
    exact outD (e' := 2) (by simp [opErr, topOf, hu, h1, h2, m1, m2, m4, m8, m16, m32, m64, m128, m224, m240, hn0]) (by decide) (opx_65_regd k d a b r3 n g hu h1 h2 hn0 K KP V hz hbl hsp)
  by_cases hq1 : g = -1 ∨ inR g U.regs
  case neg =>
    have hn0 := hq1
    exact outD (e' := 2) (by simp [opErr, topOf, hu, h1, h2, m1, m2, m4, m8, m16, m32, m64, m128, m224, m240, hq0, hn0]) (by decide) (opx_65_gg k d a b r3 n g hu h1 h2 hq0 (fun e => hn0 (.inl e)) (fun e => hn0 (.inr e)) K KP V hz hbl hsp)
  by_cases hq2 : inR n U.spill
  case neg =>
    have hn0 := hq2
    exact outD (e' := 5) (by simp [opErr, topOf, hu, h1, h2, m1, m2, m4, m8, m16, m32, m64, m128, m224, m240, hq0, hq1, hn0]) (by decide) (opx_65_nn k d a b r3 n g hu h1 h2 hq0 hq1 (notin hn0) K KP V hz hbl hsp)
  by_cases hq3 : a = 0
  case neg =>
    have hn0 := hq3
    exact outD (e' := 4) (by simp [opErr, topOf, hu, h1, h2, m1, m2, m4, m8, m16, m32, m64, m128, m224, m240, hq0, hq1, hq2, hn0]) (by decide) (opx_65_idlea k d a b r3 n g hu h1 h2 hq0 hq1 hq2 (by simpa using hn0) K KP V hz hbl hsp)
  subst hq3
  by_cases hq4 : b = 0
  case neg =>
    have hn0 := hq4
    exact outD (e' := 4) (by simp [opErr, topOf, hu, h1, h2, m1, m2, m4, m8, m16, m32, m64, m128, m224, m240, hq0, hq1, hq2, hn0]) (by decide) (opx_65_idleb k d b r3 n g hu h1 h2 hq0 hq1 hq2 (by simpa using hn0) K KP V hz hbl hsp)
  subst hq4
  by_cases hq5 : r3 = 0
  case neg =>
    have hn0 := hq5
    exact outD (e' := 4) (by simp [opErr, topOf, hu, h1, h2, m1, m2, m4, m8, m16, m32, m64, m128, m224, m240, hq0, hq1, hq2, hn0]) (by decide) (opx_65_idlec k d r3 n g hu h1 h2 hq0 hq1 hq2 (by simpa using hn0) K KP V hz hbl hsp)
  subst hq5
  exact out0 (by simp [opErr, topOf, hu, h1, h2, m1, m2, m4, m8, m16, m32, m64, m128, m224, m240, hq0, hq1, hq2]) (op_65 k d n g hu h1 h2 hq0 hq2 hq1 K V hz hbl)

theorem opa_66 (k d a b r3 n g : Int) (hu : usesK k = 66) (h1 : 1 ≤ k) (h2 : k ≤ 25) (K : Ck w c U Av cv Ab cb) (KP : CkP w c) (V : Env w) (hz : U.sizes.length ≤ 16) (hbl : U.blocks.length ≤ 2000) (hsp : 0 ≤ U.spill) :
    Calls Tryd.prog 94 #[.pointer (some ⟨c, 0, none⟩), .agg #[.int .i64 k, .int .i64 d, .int .i64 a, .int .i64 b, .int .i64 r3, .int .i64 n, .int .i64 g]] w fun x w' => OutP (opErr U ⟨k, d, a, b, r3, n, g⟩) x ∧ Below w.heap.size w w' := by
  have m1 : bits .and .i64 66 1 = 0 := by decide
  have m2 : bits .and .i64 66 2 = 2 := by decide
  have m4 : bits .and .i64 66 4 = 0 := by decide
  have m8 : bits .and .i64 66 8 = 0 := by decide
  have m16 : bits .and .i64 66 16 = 0 := by decide
  have m32 : bits .and .i64 66 32 = 0 := by decide
  have m64 : bits .and .i64 66 64 = 64 := by decide
  have m128 : bits .and .i64 66 128 = 0 := by decide
  have m224 : bits .and .i64 66 224 = 64 := by decide
  have m240 : bits .and .i64 66 240 = 64 := by decide
  by_cases hq0 : inR a U.regs
  case neg =>
    have hn0 := hq0
    exact outD (e' := 2) (by simp [opErr, topOf, hu, h1, h2, m1, m2, m4, m8, m16, m32, m64, m128, m224, m240, hn0]) (by decide) (opx_66_rega k d a b r3 n g hu h1 h2 hn0 K KP V hz hbl hsp)
  by_cases hq1 : g = -1 ∨ inR g U.regs
  case neg =>
    have hn0 := hq1
    exact outD (e' := 2) (by simp [opErr, topOf, hu, h1, h2, m1, m2, m4, m8, m16, m32, m64, m128, m224, m240, hq0, hn0]) (by decide) (opx_66_gg k d a b r3 n g hu h1 h2 hq0 (fun e => hn0 (.inl e)) (fun e => hn0 (.inr e)) K KP V hz hbl hsp)
  by_cases hq2 : inR n U.spill
  case neg =>
    have hn0 := hq2
    exact outD (e' := 5) (by simp [opErr, topOf, hu, h1, h2, m1, m2, m4, m8, m16, m32, m64, m128, m224, m240, hq0, hq1, hn0]) (by decide) (opx_66_nn k d a b r3 n g hu h1 h2 hq0 hq1 (notin hn0) K KP V hz hbl hsp)
  by_cases hq3 : d = 0
  case neg =>
    have hn0 := hq3
    exact outD (e' := 4) (by simp [opErr, topOf, hu, h1, h2, m1, m2, m4, m8, m16, m32, m64, m128, m224, m240, hq0, hq1, hq2, hn0]) (by decide) (opx_66_idled k d a b r3 n g hu h1 h2 hq0 hq1 hq2 (by simpa using hn0) K KP V hz hbl hsp)
  subst hq3
  by_cases hq4 : b = 0
  case neg =>
    have hn0 := hq4
    exact outD (e' := 4) (by simp [opErr, topOf, hu, h1, h2, m1, m2, m4, m8, m16, m32, m64, m128, m224, m240, hq0, hq1, hq2, hn0]) (by decide) (opx_66_idleb k a b r3 n g hu h1 h2 hq0 hq1 hq2 (by simpa using hn0) K KP V hz hbl hsp)
  subst hq4
  by_cases hq5 : r3 = 0
  case neg =>
    have hn0 := hq5
    exact outD (e' := 4) (by simp [opErr, topOf, hu, h1, h2, m1, m2, m4, m8, m16, m32, m64, m128, m224, m240, hq0, hq1, hq2, hn0]) (by decide) (opx_66_idlec k a r3 n g hu h1 h2 hq0 hq1 hq2 (by simpa using hn0) K KP V hz hbl hsp)
  subst hq5
  exact out0 (by simp [opErr, topOf, hu, h1, h2, m1, m2, m4, m8, m16, m32, m64, m128, m224, m240, hq0, hq1, hq2]) (op_66 k a n g hu h1 h2 hq0 hq2 hq1 K V hz hbl)

theorem opa_2 (k d a b r3 n g : Int) (hu : usesK k = 2) (h1 : 1 ≤ k) (h2 : k ≤ 25) (K : Ck w c U Av cv Ab cb) (KP : CkP w c) (V : Env w) (hz : U.sizes.length ≤ 16) (hbl : U.blocks.length ≤ 2000) (hsp : 0 ≤ U.spill) :
    Calls Tryd.prog 94 #[.pointer (some ⟨c, 0, none⟩), .agg #[.int .i64 k, .int .i64 d, .int .i64 a, .int .i64 b, .int .i64 r3, .int .i64 n, .int .i64 g]] w fun x w' => OutP (opErr U ⟨k, d, a, b, r3, n, g⟩) x ∧ Below w.heap.size w w' := by
  have m1 : bits .and .i64 2 1 = 0 := by decide
  have m2 : bits .and .i64 2 2 = 2 := by decide
  have m4 : bits .and .i64 2 4 = 0 := by decide
  have m8 : bits .and .i64 2 8 = 0 := by decide
  have m16 : bits .and .i64 2 16 = 0 := by decide
  have m32 : bits .and .i64 2 32 = 0 := by decide
  have m64 : bits .and .i64 2 64 = 0 := by decide
  have m128 : bits .and .i64 2 128 = 0 := by decide
  have m224 : bits .and .i64 2 224 = 0 := by decide
  have m240 : bits .and .i64 2 240 = 0 := by decide
  by_cases hq0 : inR a U.regs
  case neg =>
    have hn0 := hq0
    exact outD (e' := 2) (by simp [opErr, topOf, hu, h1, h2, m1, m2, m4, m8, m16, m32, m64, m128, m224, m240, hn0]) (by decide) (opx_2_rega k d a b r3 n g hu h1 h2 hn0 K KP V hz hbl hsp)
  by_cases hq1 : g = -1 ∨ inR g U.regs
  case neg =>
    have hn0 := hq1
    exact outD (e' := 2) (by simp [opErr, topOf, hu, h1, h2, m1, m2, m4, m8, m16, m32, m64, m128, m224, m240, hq0, hn0]) (by decide) (opx_2_gg k d a b r3 n g hu h1 h2 hq0 (fun e => hn0 (.inl e)) (fun e => hn0 (.inr e)) K KP V hz hbl hsp)
  by_cases hq2 : d = 0
  case neg =>
    have hn0 := hq2
    exact outD (e' := 4) (by simp [opErr, topOf, hu, h1, h2, m1, m2, m4, m8, m16, m32, m64, m128, m224, m240, hq0, hq1, hn0]) (by decide) (opx_2_idled k d a b r3 n g hu h1 h2 hq0 hq1 (by simpa using hn0) K KP V hz hbl hsp)
  subst hq2
  by_cases hq3 : b = 0
  case neg =>
    have hn0 := hq3
    exact outD (e' := 4) (by simp [opErr, topOf, hu, h1, h2, m1, m2, m4, m8, m16, m32, m64, m128, m224, m240, hq0, hq1, hn0]) (by decide) (opx_2_idleb k a b r3 n g hu h1 h2 hq0 hq1 (by simpa using hn0) K KP V hz hbl hsp)
  subst hq3
  by_cases hq4 : r3 = 0
  case neg =>
    have hn0 := hq4
    exact outD (e' := 4) (by simp [opErr, topOf, hu, h1, h2, m1, m2, m4, m8, m16, m32, m64, m128, m224, m240, hq0, hq1, hn0]) (by decide) (opx_2_idlec k a r3 n g hu h1 h2 hq0 hq1 (by simpa using hn0) K KP V hz hbl hsp)
  subst hq4
  by_cases hq5 : n = 0
  case neg =>
    have hn0 := hq5
    exact outD (e' := 4) (by simp [opErr, topOf, hu, h1, h2, m1, m2, m4, m8, m16, m32, m64, m128, m224, m240, hq0, hq1, hn0]) (by decide) (opx_2_idlen k a n g hu h1 h2 hq0 hq1 (by simpa using hn0) K KP V hz hbl hsp)
  subst hq5
  exact out0 (by simp [opErr, topOf, hu, h1, h2, m1, m2, m4, m8, m16, m32, m64, m128, m224, m240, hq0, hq1]) (op_2 k a g hu h1 h2 hq0 hq1 K V hz hbl)

theorem opa_130 (k d a b r3 n g : Int) (hu : usesK k = 130) (h1 : 1 ≤ k) (h2 : k ≤ 25) (K : Ck w c U Av cv Ab cb) (KP : CkP w c) (V : Env w) (hz : U.sizes.length ≤ 16) (hbl : U.blocks.length ≤ 2000) (hsp : 0 ≤ U.spill) :
    Calls Tryd.prog 94 #[.pointer (some ⟨c, 0, none⟩), .agg #[.int .i64 k, .int .i64 d, .int .i64 a, .int .i64 b, .int .i64 r3, .int .i64 n, .int .i64 g]] w fun x w' => OutP (opErr U ⟨k, d, a, b, r3, n, g⟩) x ∧ Below w.heap.size w w' := by
  have m1 : bits .and .i64 130 1 = 0 := by decide
  have m2 : bits .and .i64 130 2 = 2 := by decide
  have m4 : bits .and .i64 130 4 = 0 := by decide
  have m8 : bits .and .i64 130 8 = 0 := by decide
  have m16 : bits .and .i64 130 16 = 0 := by decide
  have m32 : bits .and .i64 130 32 = 0 := by decide
  have m64 : bits .and .i64 130 64 = 0 := by decide
  have m128 : bits .and .i64 130 128 = 128 := by decide
  have m224 : bits .and .i64 130 224 = 128 := by decide
  have m240 : bits .and .i64 130 240 = 128 := by decide
  by_cases hq0 : inR a U.regs
  case neg =>
    have hn0 := hq0
    exact outD (e' := 2) (by simp [opErr, topOf, hu, h1, h2, m1, m2, m4, m8, m16, m32, m64, m128, m224, m240, hn0]) (by decide) (opx_130_rega k d a b r3 n g hu h1 h2 hn0 K KP V hz hbl hsp)
  by_cases hq1 : g = -1 ∨ inR g U.regs
  case neg =>
    have hn0 := hq1
    exact outD (e' := 2) (by simp [opErr, topOf, hu, h1, h2, m1, m2, m4, m8, m16, m32, m64, m128, m224, m240, hq0, hn0]) (by decide) (opx_130_gg k d a b r3 n g hu h1 h2 hq0 (fun e => hn0 (.inl e)) (fun e => hn0 (.inr e)) K KP V hz hbl hsp)
  by_cases hq2 : inR n U.blocks.length
  case neg =>
    have hn0 := hq2
    exact outD (e' := 5) (by simp [opErr, topOf, hu, h1, h2, m1, m2, m4, m8, m16, m32, m64, m128, m224, m240, hq0, hq1, hn0]) (by decide) (opx_130_nn k d a b r3 n g hu h1 h2 hq0 hq1 (notin hn0) K KP V hz hbl hsp)
  by_cases hq3 : d = 0
  case neg =>
    have hn0 := hq3
    exact outD (e' := 4) (by simp [opErr, topOf, hu, h1, h2, m1, m2, m4, m8, m16, m32, m64, m128, m224, m240, hq0, hq1, hq2, hn0]) (by decide) (opx_130_idled k d a b r3 n g hu h1 h2 hq0 hq1 hq2 (by simpa using hn0) K KP V hz hbl hsp)
  subst hq3
  by_cases hq4 : b = 0
  case neg =>
    have hn0 := hq4
    exact outD (e' := 4) (by simp [opErr, topOf, hu, h1, h2, m1, m2, m4, m8, m16, m32, m64, m128, m224, m240, hq0, hq1, hq2, hn0]) (by decide) (opx_130_idleb k a b r3 n g hu h1 h2 hq0 hq1 hq2 (by simpa using hn0) K KP V hz hbl hsp)
  subst hq4
  by_cases hq5 : r3 = 0
  case neg =>
    have hn0 := hq5
    exact outD (e' := 4) (by simp [opErr, topOf, hu, h1, h2, m1, m2, m4, m8, m16, m32, m64, m128, m224, m240, hq0, hq1, hq2, hn0]) (by decide) (opx_130_idlec k a r3 n g hu h1 h2 hq0 hq1 hq2 (by simpa using hn0) K KP V hz hbl hsp)
  subst hq5
  exact out0 (by simp [opErr, topOf, hu, h1, h2, m1, m2, m4, m8, m16, m32, m64, m128, m224, m240, hq0, hq1, hq2]) (op_130 k a n g hu h1 h2 hq0 hq2 hq1 K V hz hbl)

set_option maxRecDepth 100000 in
set_option maxHeartbeats 1000000 in
theorem opx_none (k d a b r3 n g : Int) (hk : k < 1 ∨ 25 < k) (K : Ck w c U Av cv Ab cb) (KP : CkP w c) :
    Calls Tryd.prog 94 #[.pointer (some ⟨c, 0, none⟩), .agg #[.int .i64 k, .int .i64 d, .int .i64 a, .int .i64 b, .int .i64 r3, .int .i64 n, .int .i64 g]] w fun x w' => Died 4 x ∧ Below w.heap.size w w' := by
  have HO := Lib.hid (fun (W : World) => of_none k hk W)
  have lc := lt_cell K.c2
  have nc : c ≠ w.heap.size := by omega
  have nc' := nc.symm
  have K0 := K.c0
  have K2 := K.c2
  have K4 := K.c4
  have K5 := K.c5
  have HK := Lib.hid KP
  clear K KP hk
  go_enter Tryd.func94, Tryd.ntmps94
  go_wp2_with (first
      | (go_at_call 111; refine (HO.out _).mono ?_; rintro x w1 ⟨rfl, hb1⟩; have hbw := bel_box1 hb1; have E0 := keep1 hbw K0; have E2 := keep1 hbw K2; have E4 := keep1 hbw K4; have E5 := keep1 hbw K5; have EP := HK.out.below hbw; have hsz := hbw.size; have ls1 := box_lt1 hb1; have nw : c ≠ w1.heap.size := ?nw; (case nw => omega); have nw' := nw.symm; have lw : c < w1.heap.size := ?nw; (case nw => omega); have nx : w.heap.size ≠ w1.heap.size := ?nw; (case nw => omega); have nx' := nx.symm; have HB := Lib.hid hbw; have HP := Lib.hid EP; clear hb1 hbw EP)
      | (go_at_call 91; (with_reducible refine (must_bad (c := c) _ _ ?rd).mono ?_); (case rd => first | exact HP.out | exact HP.out.alloc _); rintro x w3 ⟨⟨b0, a0, rfl⟩, hb3⟩; have HB3 := Lib.hid hb3; clear hb3))
  exact ⟨rfl, ⟨_, _, rfl⟩, by first | exact (HB.out.alloc (Nat.le_of_lt ls1) _).trans (HB3.out.mono (by simp; omega)) | exact HB.out.trans (HB3.out.mono hsz)⟩
theorem opE_any (o : OpI) (K : Ck w c U Av cv Ab cb) (KP : CkP w c) (V : Env w) (hz : U.sizes.length ≤ 16) (hbl : U.blocks.length ≤ 2000) (hsp : 0 ≤ U.spill) :
    Calls Tryd.prog 94 #[.pointer (some ⟨c, 0, none⟩), opV o] w fun x w' => OutP (opErr U o) x ∧ Below w.heap.size w w' := by
  obtain ⟨k, d, a, b, r3, n, g⟩ := o
  by_cases hk : 1 ≤ k ∧ k ≤ 25
  · obtain ⟨h1, h2⟩ := hk
    have h' : usesK k = 17 ∨ usesK k = 3 ∨ usesK k = 7 ∨ usesK k = 15 ∨ usesK k = 35 ∨ usesK k = 38 ∨ usesK k = 65 ∨ usesK k = 66 ∨ usesK k = 2 ∨ usesK k = 130 := by
      have h' : k = 1 ∨ k = 2 ∨ k = 3 ∨ k = 4 ∨ k = 5 ∨ k = 6 ∨ k = 7 ∨ k = 8 ∨ k = 9 ∨ k = 10 ∨ k = 11 ∨ k = 12 ∨ k = 13 ∨ k = 14 ∨ k = 15 ∨ k = 16 ∨ k = 17 ∨ k = 18 ∨ k = 19 ∨ k = 20 ∨ k = 21 ∨ k = 22 ∨ k = 23 ∨ k = 24 ∨ k = 25 := by omega
      rcases h' with rfl | rfl | rfl | rfl | rfl | rfl | rfl | rfl | rfl | rfl | rfl | rfl | rfl | rfl | rfl | rfl | rfl | rfl | rfl | rfl | rfl | rfl | rfl | rfl | rfl <;> decide
    rcases h' with hu | hu | hu | hu | hu | hu | hu | hu | hu | hu
    · exact opa_17 k d a b r3 n g hu h1 h2 K KP V hz hbl hsp
    · exact opa_3 k d a b r3 n g hu h1 h2 K KP V hz hbl hsp
    · exact opa_7 k d a b r3 n g hu h1 h2 K KP V hz hbl hsp
    · exact opa_15 k d a b r3 n g hu h1 h2 K KP V hz hbl hsp
    · exact opa_35 k d a b r3 n g hu h1 h2 K KP V hz hbl hsp
    · exact opa_38 k d a b r3 n g hu h1 h2 K KP V hz hbl hsp
    · exact opa_65 k d a b r3 n g hu h1 h2 K KP V hz hbl hsp
    · exact opa_66 k d a b r3 n g hu h1 h2 K KP V hz hbl hsp
    · exact opa_2 k d a b r3 n g hu h1 h2 K KP V hz hbl hsp
    · exact opa_130 k d a b r3 n g hu h1 h2 K KP V hz hbl hsp
  · exact outD (e' := 4) (by simp only [opErr]; rw [if_pos hk]) (by decide) (opx_none k d a b r3 n g (by omega) K KP)
theorem edE_any (e : EdS) (K : Ck w c U Av cv Ab cb) (KP : CkP w c) (hbl : U.blocks.length ≤ 2000) :
    Calls Tryd.prog 95 #[.pointer (some ⟨c, 0, none⟩), edV e] w fun x w' => OutP (edErr U e) x ∧ Below w.heap.size w w' := by
  obtain ⟨k, a, t, l⟩ := e
  by_cases hk : 1 ≤ k ∧ k ≤ 4
  · have h' : k = 1 ∨ k = 2 ∨ k = 3 ∨ k = 4 := by omega
    rcases h' with rfl | rfl | rfl | rfl
    · by_cases ht : inR t U.blocks.length
      · by_cases ha : a = 0
        · subst ha
          by_cases hl : l = 0
          · subst hl
            exact out0 (by simp [edErr, ht]) (end_1 t ht K hbl)
          · exact outD (e' := 4) (by simp [edErr, ht, hl]) (by decide) (endx_1_il t l ht (by simpa using hl) K KP hbl)
        · exact outD (e' := 4) (by simp [edErr, ht, ha]) (by decide) (endx_1_ia a t l ht (by simpa using ha) K KP hbl)
      · exact outD (e' := 5) (by simp [edErr, ht]) (by decide) (endx_1_t a t l ht K KP hbl)
    · by_cases ha : inR a U.regs
      · by_cases ht : inR t U.blocks.length
        · by_cases hl : inR l U.blocks.length
          · exact out0 (by simp [edErr, ht, ha, hl]) (end_2 a t l ha ht hl K hbl)
          · exact outD (e' := 5) (by simp [edErr, ht, ha, hl]) (by decide) (endx_2_l a t l ha ht hl K KP hbl)
        · exact outD (e' := 5) (by simp [edErr, ht, ha]) (by decide) (endx_2_t a t l ha ht K KP hbl)
      · exact outD (e' := 2) (by simp [edErr, ha]) (by decide) (endx_2_a a t l ha K KP hbl)
    · by_cases ha : inR a U.regs
      · by_cases ht : t = 0
        · subst ht
          by_cases hl : l = 0
          · subst hl
            exact out0 (by simp [edErr, ha]) (end_3 a ha K hbl)
          · exact outD (e' := 4) (by simp [edErr, ha, hl]) (by decide) (endx_3_il a l ha (by simpa using hl) K KP hbl)
        · exact outD (e' := 4) (by simp [edErr, ha, ht]) (by decide) (endx_3_it a t l ha (by simpa using ht) K KP hbl)
      · exact outD (e' := 2) (by simp [edErr, ha]) (by decide) (endx_3_a a t l ha K KP hbl)
    · by_cases ha : inR a U.regs
      · by_cases ht : t = 0
        · subst ht
          by_cases hl : l = 0
          · subst hl
            exact out0 (by simp [edErr, ha]) (end_4 a ha K hbl)
          · exact outD (e' := 4) (by simp [edErr, ha, hl]) (by decide) (endx_4_il a l ha (by simpa using hl) K KP hbl)
        · exact outD (e' := 4) (by simp [edErr, ha, ht]) (by decide) (endx_4_it a t l ha (by simpa using ht) K KP hbl)
      · exact outD (e' := 2) (by simp [edErr, ha]) (by decide) (endx_4_a a t l ha K KP hbl)
  · by_cases h1 : k < 1
    · exact outD (e' := 4) (by simp only [edErr]; rw [if_pos hk]) (by decide) (endx_kindlo k a t l h1 K KP hbl)
    · exact outD (e' := 4) (by simp only [edErr]; rw [if_pos hk]) (by decide) (endx_kindhi k a t l (by omega) K KP hbl)
end Go.Proofs.YtfkjkdoloamakaaDoor
