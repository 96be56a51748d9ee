/- What the functions of package word compute, each by a walk of its own: the closures, plain, divided, table, Math. -/
import Derived.Test.YtfkjkdoloamakaaDoorProg
import Derived.WalkKit
import Derived.WalkSpells
import Derived.WalkLawsBesides
import Derived.Handy
import Derived.BigQuiet
import Derived.Deep.QuietTactic
import Derived.Deep.RegionWith
namespace Go.Proofs.YtfkjkdoloamakaaDoor
open Go.RowKit

theorem eql_fn (f : Fn) (x y : Array Value) (w : World) : (binOp .eql 169 (.func f x y) .nilFunc).run Tryd.prog w = .ok (.bool false) w := by kernel_rfl
theorem eql_nofn (w : World) : (binOp .eql 169 .nilFunc .nilFunc).run Tryd.prog w = .ok (.bool true) w := by kernel_rfl
theorem mk_fn (fn : Fn) (first cap : Array Value) (w : World) : (Instr.makeFunc fn first cap).run Tryd.prog w = .ok (.func fn first cap) w := rfl

theorem wrap64_bv (x : Int) : wrap64 x = (BitVec.ofInt 64 x).toInt := by
  rw [BitVec.toInt_ofInt]; unfold wrap64 Int.bmod; simp only [Nat.reducePow]; simp; split <;> omega
theorem wrap_i64 (x : Int) : IntKind.i64.wrap x = (BitVec.ofInt 64 x).toInt := by
  rw [← wrap64_bv]; simp [IntKind.wrap, IntKind.bits, IntKind.signed, wrap64]; split <;> omega
theorem bits_and_bv (a b : Int) : bits .and .i64 a b = (BitVec.ofInt 64 a &&& BitVec.ofInt 64 b).toInt := by
  show IntKind.i64.wrap ((BitVec.ofInt 64 a &&& BitVec.ofInt 64 b).toNat : Int) = _
  rw [wrap_i64, BitVec.ofInt_natCast, BitVec.ofNat_toNat, BitVec.setWidth_eq]
theorem bits_or_bv (a b : Int) : bits .or .i64 a b = (BitVec.ofInt 64 a ||| BitVec.ofInt 64 b).toInt := by
  show IntKind.i64.wrap ((BitVec.ofInt 64 a ||| BitVec.ofInt 64 b).toNat : Int) = _
  rw [wrap_i64, BitVec.ofInt_natCast, BitVec.ofNat_toNat, BitVec.setWidth_eq]
theorem bits_xor_bv (a b : Int) : bits .xor .i64 a b = (BitVec.ofInt 64 a ^^^ BitVec.ofInt 64 b).toInt := by
  show IntKind.i64.wrap ((BitVec.ofInt 64 a ^^^ BitVec.ofInt 64 b).toNat : Int) = _
  rw [wrap_i64, BitVec.ofInt_natCast, BitVec.ofNat_toNat, BitVec.setWidth_eq]
/-- the low six bits of a number -/
theorem and63 (b : Int) : bits .and .i64 b 63 = b % 64 := by
  rw [bits_and_bv]
  have h : (BitVec.ofInt 64 b &&& BitVec.ofInt 64 63) = BitVec.ofInt 64 (b % 64) := by
    apply BitVec.eq_of_toNat_eq
    rw [BitVec.toNat_and]
    have e : (BitVec.ofInt 64 63).toNat = 2 ^ 6 - 1 := by decide
    rw [e, Nat.and_two_pow_sub_one_eq_mod]
    simp only [BitVec.toNat_ofInt]
    omega
  rw [h, ← wrap64_bv]; unfold wrap64; omega

/-- what an operation makes where it does not trap -/
def un (k a b : Int) : Int :=
  if k = 3 then wrap64 (a + b) else if k = 4 then wrap64 (a - b) else if k = 5 then bits .and .i64 a b else if k = 6 then bits .or .i64 a b
  else if k = 7 then bits .xor .i64 a b else if k = 8 then IntKind.i64.wrap (a * 2 ^ (b % 64).toNat) else if k = 9 then a / 2 ^ (b % 64).toNat
  else if k = 10 then (if a < b then 1 else 0) else if k = 11 then (if a = b then 1 else 0) else if k = 13 then wrap64 (a * b)
  else if k = 14 then wrap64 (a.tdiv b) else a.tmod b

theorem ret_int {k : IntKind} {a b : Int} (h : a = b) : Ending.returned (.int k a) = .returned (.int k b) := by rw [h]

section closures
variable (a b : Int) (w : World)
theorem c1 : Calls Tryd.prog 122 #[.int .i64 a, .int .i64 b] w fun e w' => e = .returned (.int .i64 (un 3 a b)) ∧ w = w' := by
  go_enter Tryd.func122, Tryd.ntmps122
  go_wp2
  go_ret
  exact ⟨rfl, rfl⟩
theorem c2 : Calls Tryd.prog 123 #[.int .i64 a, .int .i64 b] w fun e w' => e = .returned (.int .i64 (un 4 a b)) ∧ w = w' := by
  go_enter Tryd.func123, Tryd.ntmps123
  go_wp2
  go_ret
  exact ⟨rfl, rfl⟩
theorem c3 : Calls Tryd.prog 124 #[.int .i64 a, .int .i64 b] w fun e w' => e = .returned (.int .i64 (un 5 a b)) ∧ w = w' := by
  go_enter Tryd.func124, Tryd.ntmps124
  go_wp2
  go_ret
  exact ⟨rfl, rfl⟩
theorem c4 : Calls Tryd.prog 125 #[.int .i64 a, .int .i64 b] w fun e w' => e = .returned (.int .i64 (un 6 a b)) ∧ w = w' := by
  go_enter Tryd.func125, Tryd.ntmps125
  go_wp2
  go_ret
  exact ⟨rfl, rfl⟩
theorem c5 : Calls Tryd.prog 126 #[.int .i64 a, .int .i64 b] w fun e w' => e = .returned (.int .i64 (un 7 a b)) ∧ w = w' := by
  go_enter Tryd.func126, Tryd.ntmps126
  go_wp2
  go_ret
  exact ⟨rfl, rfl⟩
theorem c6 : Calls Tryd.prog 127 #[.int .i64 a, .int .i64 b] w fun e w' => e = .returned (.int .i64 (un 8 a b)) ∧ w = w' := by
  have h0 : (0 : Int) ≤ bits .and .i64 b 63 := by rw [and63]; omega
  have h1 : (bits .and .i64 b 63).toNat ≤ 64 := by rw [and63]; omega
  have hm : min (bits .and .i64 b 63).toNat 64 = (bits .and .i64 b 63).toNat := by omega
  have hs := shift_shl .i64 .i64 a (bits .and .i64 b 63) h0 (by simp [IntKind.bits]; omega)
  have hq : IntKind.i64.wrap (a * 2 ^ (bits .and .i64 b 63).toNat) = un 8 a b := by rw [and63]; rfl
  rw [hq] at hs
  clear h0 h1 hm hq
  go_enter Tryd.func127, Tryd.ntmps127
  go_wp2
  go_ret
  exact ⟨rfl, rfl⟩
theorem c7 : Calls Tryd.prog 128 #[.int .i64 a, .int .i64 b] w fun e w' => e = .returned (.int .i64 (un 9 a b)) ∧ w = w' := by
  have h0 : (0 : Int) ≤ bits .and .i64 b 63 := by rw [and63]; omega
  have h1 : (bits .and .i64 b 63).toNat ≤ 64 := by rw [and63]; omega
  have hs := shift_shr .i64 .i64 a (bits .and .i64 b 63) h0 (by simp [IntKind.bits]; omega)
  have hq : a / 2 ^ (bits .and .i64 b 63).toNat = un 9 a b := by rw [and63]; rfl
  rw [hq] at hs
  clear h0 h1 hq
  go_enter Tryd.func128, Tryd.ntmps128
  go_wp2
  go_ret
  exact ⟨rfl, rfl⟩
theorem bit_any (t : Bool) : Calls Tryd.prog 130 #[.bool t] w fun e w' => e = .returned (.int .i64 (if t = true then 1 else 0)) ∧ w = w' := by
  cases t
  · go_enter Tryd.func130, Tryd.ntmps130
    go_wp2
    go_ret
    exact ⟨rfl, rfl⟩
  · go_enter Tryd.func130, Tryd.ntmps130
    go_wp2
    go_ret
    exact ⟨rfl, rfl⟩
theorem c8 : Calls Tryd.prog 129 #[.int .i64 a, .int .i64 b] w fun e w' => e = .returned (.int .i64 (un 10 a b)) ∧ w = w' := by
  go_enter Tryd.func129, Tryd.ntmps129
  go_wp2_with (go_at_call 130; refine (bit_any _ _).mono ?_; rintro e w' ⟨rfl, rfl⟩)
  · go_ret; exact ⟨ret_int (by simp [un, h]), rfl⟩
  · go_ret; exact ⟨ret_int (by simp [un]; omega), rfl⟩
theorem c9 : Calls Tryd.prog 131 #[.int .i64 a, .int .i64 b] w fun e w' => e = .returned (.int .i64 (un 11 a b)) ∧ w = w' := by
  go_enter Tryd.func131, Tryd.ntmps131
  go_wp2_with (go_at_call 130; refine (bit_any _ _).mono ?_; rintro e w' ⟨rfl, rfl⟩)
  · go_ret; exact ⟨ret_int (by simp [un]), rfl⟩
  · go_ret; exact ⟨ret_int (by simp [un, h]), rfl⟩
theorem c10 : Calls Tryd.prog 132 #[.int .i64 a, .int .i64 b] w fun e w' => e = .returned (.int .i64 (un 13 a b)) ∧ w = w' := by
  go_enter Tryd.func132, Tryd.ntmps132
  go_wp2
  go_ret
  exact ⟨rfl, rfl⟩
theorem c11 (hb : b ≠ 0) : Calls Tryd.prog 134 #[.int .i64 a, .int .i64 b] w fun e w' => e = .returned (.int .i64 (un 14 a b)) ∧ w = w' := by
  go_enter Tryd.func134, Tryd.ntmps134
  go_wp2
  go_ret
  exact ⟨rfl, rfl⟩
theorem c12 (hb : b ≠ 0) : Calls Tryd.prog 135 #[.int .i64 a, .int .i64 b] w fun e w' => e = .returned (.int .i64 (un 15 a b)) ∧ w = w' := by
  go_enter Tryd.func135, Tryd.ntmps135
  go_wp2
  go_ret
  exact ⟨rfl, rfl⟩
end closures
end Go.Proofs.YtfkjkdoloamakaaDoor
