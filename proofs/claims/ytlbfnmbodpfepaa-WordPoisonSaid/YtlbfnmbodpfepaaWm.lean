/- The plain laws of layer 1: numbers of 64 bits with the operations are what the statements say. No Go in sight but the names of the operations' answers. -/
import Derived.Test.YtlbfnmbodpfepaaWl
namespace Go.Proofs.Ytlbfnmbodpfepaa
open Go.RowKit

/-- a number that fits int64 -/
def fits (a : Int) : Prop := -9223372036854775808 ≤ a ∧ a ≤ 9223372036854775807
def bv (a : Int) : BitVec 64 := BitVec.ofInt 64 a
theorem bv_toInt (x : BitVec 64) : bv x.toInt = x := BitVec.ofInt_toInt
theorem toInt_bv {a : Int} (h : fits a) : (bv a).toInt = a := by
  unfold bv; rw [← wrap64_bv]; unfold fits at h; unfold wrap64; omega
theorem m_add (a b : Int) : mN 3 a b = (bv a + bv b).toInt := by
  show wrap64 (a + b) = _; rw [wrap64_bv, BitVec.ofInt_add]; rfl
theorem m_sub (a b : Int) : mN 4 a b = (bv a - bv b).toInt := by
  show wrap64 (a - b) = _; rw [wrap64_bv, Int.sub_eq_add_neg, BitVec.ofInt_add, BitVec.ofInt_neg, ← BitVec.sub_eq_add_neg]; rfl
theorem m_and (a b : Int) : mN 5 a b = (bv a &&& bv b).toInt := bits_and_bv a b
theorem m_or (a b : Int) : mN 6 a b = (bv a ||| bv b).toInt := bits_or_bv a b
theorem m_xor (a b : Int) : mN 7 a b = (bv a ^^^ bv b).toInt := bits_xor_bv a b
theorem m_mul (a b : Int) : mN 13 a b = (bv a * bv b).toInt := by
  show wrap64 (a * b) = _; rw [wrap64_bv, BitVec.ofInt_mul]; rfl
theorem bv_0 : bv 0 = 0#64 := rfl
theorem bv_1 : bv 1 = 1#64 := rfl
theorem bv_mul (a b : Int) : bv (a * b) = bv a * bv b := BitVec.ofInt_mul a b
theorem bv_add (a b : Int) : bv (a + b) = bv a + bv b := BitVec.ofInt_add a b
theorem bv_wrap (a : Int) : bv (wrap64 a) = bv a := by rw [wrap64_bv]; exact bv_toInt _

theorem and_or_abs (x y : BitVec 64) : x &&& (x ||| y) = x := by
  apply BitVec.eq_of_getLsbD_eq
  intro i _
  rw [BitVec.getLsbD_and, BitVec.getLsbD_or]
  cases x.getLsbD i <;> simp
theorem and_add_or (x y : BitVec 64) : (x &&& y) + (x ||| y) = x + y := by
  have h1 : x ||| y = x + (y &&& ~~~x) := by
    rw [BitVec.add_eq_or_of_and_eq_zero]
    · apply BitVec.eq_of_getLsbD_eq
      intro i hi
      simp only [BitVec.getLsbD_or, BitVec.getLsbD_and, BitVec.getLsbD_not, hi]
      cases x.getLsbD i <;> cases y.getLsbD i <;> simp
    · apply BitVec.eq_of_getLsbD_eq
      intro i hi
      simp only [BitVec.getLsbD_and, BitVec.getLsbD_not, hi]
      cases x.getLsbD i <;> cases y.getLsbD i <;> simp
  have h2 : (x &&& y) + (y &&& ~~~x) = y := by
    rw [BitVec.add_eq_or_of_and_eq_zero]
    · apply BitVec.eq_of_getLsbD_eq
      intro i hi
      simp only [BitVec.getLsbD_or, BitVec.getLsbD_and, BitVec.getLsbD_not, hi]
      cases x.getLsbD i <;> cases y.getLsbD i <;> simp
    · apply BitVec.eq_of_getLsbD_eq
      intro i hi
      simp only [BitVec.getLsbD_and, BitVec.getLsbD_not, hi]
      cases x.getLsbD i <;> cases y.getLsbD i <;> simp
  rw [h1, ← BitVec.add_assoc, BitVec.add_comm (x &&& y) x, BitVec.add_assoc, h2]

section ring
variable (a b c : Int)
theorem r_addc : (mN 3 a b == mN 3 b a) = true := by simp only [m_add, BitVec.add_comm, beq_self_eq_true]
theorem r_adda : (mN 3 (mN 3 a b) c == mN 3 a (mN 3 b c)) = true := by simp only [m_add, bv_toInt, BitVec.add_assoc, beq_self_eq_true]
theorem r_add0 (h : fits a) : (mN 3 a 0 == a) = true := by simp only [m_add, bv_0, BitVec.add_zero, toInt_bv h, beq_self_eq_true]
theorem r_mulc : (mN 13 a b == mN 13 b a) = true := by simp only [m_mul, BitVec.mul_comm, beq_self_eq_true]
theorem r_mula : (mN 13 (mN 13 a b) c == mN 13 a (mN 13 b c)) = true := by simp only [m_mul, bv_toInt, BitVec.mul_assoc, beq_self_eq_true]
theorem r_mul1 (h : fits a) : (mN 13 a 1 == a) = true := by simp only [m_mul, bv_1, BitVec.mul_one, toInt_bv h, beq_self_eq_true]
theorem r_dist : (mN 13 a (mN 3 b c) == mN 3 (mN 13 a b) (mN 13 a c)) = true := by simp only [m_add, m_mul, bv_toInt, BitVec.mul_add, beq_self_eq_true]
theorem r_sub (h : fits a) : (mN 4 (mN 3 a b) b == a) = true := by simp only [m_add, m_sub, bv_toInt, BitVec.add_sub_cancel, toInt_bv h, beq_self_eq_true]
theorem r_xor (h : fits a) : (mN 7 (mN 7 a b) b == a) = true := by simp only [m_xor, bv_toInt, BitVec.xor_assoc, BitVec.xor_self, BitVec.xor_zero, toInt_bv h, beq_self_eq_true]
theorem r_abs (h : fits a) : (mN 5 a (mN 6 a b) == a) = true := by simp only [m_and, m_or, bv_toInt, and_or_abs, toInt_bv h, beq_self_eq_true]
theorem r_ao : (mN 3 (mN 5 a b) (mN 6 a b) == mN 3 a b) = true := by simp only [m_add, m_and, m_or, bv_toInt, and_add_or, beq_self_eq_true]
end ring

theorem m_div (a b : Int) (hb : b ≠ 0) : mN 14 a b = wrap64 (a.tdiv b) := by
  show (if dv 14 = true ∧ b = 0 then 0 else un 14 a b) = _
  rw [if_neg (by simp [hb])]; rfl
theorem m_rem (a b : Int) (hb : b ≠ 0) : mN 15 a b = a.tmod b := by
  show (if dv 15 = true ∧ b = 0 then 0 else un 15 a b) = _
  rw [if_neg (by simp [hb])]; rfl
theorem d_back (a b : Int) (ha : fits a) (hb : b ≠ 0) : mN 3 (mN 13 (mN 14 a b) b) (mN 15 a b) = a := by
  rw [m_div a b hb, m_rem a b hb, m_add, m_mul, bv_toInt, bv_wrap, ← bv_mul, ← bv_add]
  have e : a.tdiv b * b + a.tmod b = a := by rw [Int.mul_comm]; exact Int.mul_tdiv_add_tmod a b
  rw [e]; exact toInt_bv ha
theorem d_far (a b : Int) (hb : b ≠ 0) : (a.tmod b).natAbs < b.natAbs := by
  rw [Int.natAbs_tmod]; exact Nat.mod_lt _ (by omega)
theorem d_sign (a b : Int) (h : a.tmod b ≠ 0) : (a.tmod b < 0) ↔ (a < 0) := by
  constructor
  · intro h1
    rcases Int.lt_or_le a 0 with h2 | h2
    · exact h2
    · have := Int.tmod_nonneg b h2; omega
  · intro h1
    have h2 : 0 ≤ (-a).tmod b := Int.tmod_nonneg b (by omega)
    rw [Int.neg_tmod] at h2; omega

/-- two, doubled i times -/
def twice (i : Nat) : Int := wrap64 (2 ^ i)
theorem twice_succ (i : Nat) : mN 3 (twice i) (twice i) = twice (i + 1) := by
  rw [m_add]; unfold twice; rw [bv_wrap, ← bv_add]
  have e : (2 : Int) ^ i + 2 ^ i = 2 ^ (i + 1) := by rw [Int.pow_succ]; omega
  rw [e, wrap64_bv]; rfl
theorem m_shl (a b : Int) : mN 8 a b = wrap64 (a * 2 ^ (b % 64).toNat) := by
  show IntKind.i64.wrap _ = _; rw [wrap_i64, wrap64_bv]
theorem m_shr (a b : Int) : mN 9 a b = a / 2 ^ (b % 64).toNat := rfl
theorem s_shl (a b : Int) : mN 8 a (b % 64) = mN 8 a b := by rw [m_shl, m_shl, Int.emod_emod]
theorem s_shr (a b : Int) : mN 9 a (b % 64) = mN 9 a b := by rw [m_shr, m_shr, Int.emod_emod]
theorem s_mul (a : Int) (k : Nat) (hk : k < 64) : mN 8 a k = mN 13 a (twice k) := by
  have e : ((k : Int) % 64).toNat = k := by omega
  rw [m_shl, e, m_mul]; unfold twice; rw [bv_wrap, ← bv_mul, wrap64_bv]; rfl
theorem s_back (a : Int) (ha : fits a) (k : Nat) (hk : k < 64) : mN 9 (mN 8 (mN 9 a k) k) k = mN 9 a k := by
  have e : ((k : Int) % 64).toNat = k := by omega
  rw [m_shr, m_shr, m_shl, e]
  have hp : (0 : Int) < 2 ^ k := Int.pow_pos (by decide)
  have h1 : a / 2 ^ k * 2 ^ k ≤ a := Int.ediv_mul_le a (by omega)
  have h2 : -9223372036854775808 ≤ a / 2 ^ k * 2 ^ k := by
    have hd : (-9223372036854775808 : Int) = -(2 ^ (63 - k)) * 2 ^ k := by
      rw [Int.neg_mul, ← Int.pow_add, show 63 - k + k = 63 by omega]; rfl
    have h3 : -(2 ^ (63 - k) : Int) ≤ a / 2 ^ k := by
      rw [Int.le_ediv_iff_mul_le hp, ← hd]; exact ha.1
    calc (-9223372036854775808 : Int) = -(2 ^ (63 - k)) * 2 ^ k := hd
      _ ≤ a / 2 ^ k * 2 ^ k := Int.mul_le_mul_of_nonneg_right h3 (by omega)
  have h3 : wrap64 (a / 2 ^ k * 2 ^ k) = a / 2 ^ k * 2 ^ k := by
    have := ha.2
    unfold wrap64; omega
  rw [h3, Int.mul_ediv_cancel _ (by omega)]
end Go.Proofs.Ytlbfnmbodpfepaa
