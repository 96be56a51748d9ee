/- What is of no program in the laws on Show and Read: the numeral of a number is read back as that number, by the library's parse and by the specification's loop. -/
import Derived.RowKit
import Derived.Lib.ItoaMem
import Derived.Lib.ParseIntBTie
namespace Go.Proofs.YtlbfnmbodpfepaaDoor
open Go.RowKit (wrap64)
open Go Go.Lib

/-- the specification's loop over the digits: below 0, 19 digits at most -/
def rl (i : Nat) (n : Int) : List UInt8 → Option Int
  | [] => some n
  | c :: r => if c.toNat < 48 ∨ 57 < c.toNat ∨ 19 ≤ i then none else rl (i + 1) (wrap64 (wrap64 (10 * n) - ((c.toNat : Int) - 48))) r

theorem rl_append : ∀ (l : List UInt8) (i : Nat) (n : Int) (r : List UInt8), rl i n (l ++ r) = (rl i n l).bind fun m => rl (i + l.length) m r
  | [], i, n, r => by simp [rl]
  | c :: l, i, n, r => by
    simp only [List.cons_append, rl]
    split
    · rfl
    · rw [rl_append l]; congr 1; funext m; congr 1; simp; omega

theorem pu_append : ∀ (l : List UInt8) (a b : Nat) (r : List UInt8), parseUint10 a l = .ok b → parseUint10 a (l ++ r) = parseUint10 b r
  | [], a, b, r, h => by simp only [parseUint10] at h; injection h with h; simp [h]
  | c :: l, a, b, r, h => by
    simp only [List.cons_append, parseUint10] at h ⊢
    split at h
    · rename_i h1
      rw [if_pos h1]
      split at h
      · cases h
      · rename_i h2
        rw [if_neg h2]
        split at h
        · cases h
        · rename_i h3
          rw [if_neg h3]
          exact pu_append l _ b r h
    · cases h

theorem dig_nat (d : Nat) (h : d < 10) : (UInt8.ofNat (48 + d)).toNat = 48 + d := by
  rw [UInt8.toNat_ofNat']; omega

theorem pu_dec (u : Nat) (h : u < 18446744073709551616) : parseUint10 0 (decDigits u) = .ok u := by
  induction u using Nat.strongRecOn with
  | _ u ih =>
    by_cases h10 : u < 10
    · rw [decDigits_one h10]
      simp only [parseUint10, dig_nat u h10]
      rw [if_pos (by omega), if_neg (by omega), if_neg (by omega)]
      congr 1; omega
    · rw [decDigits, dif_neg h10, pu_append _ _ _ _ (ih (u / 10) (by omega) (by omega))]
      simp only [parseUint10, dig_nat (u % 10) (by omega)]
      rw [if_pos (by omega), if_neg (by omega), if_neg (by omega)]
      congr 1; omega

theorem nDigits_le : ∀ (k u : Nat), 1 ≤ k → u < 10 ^ k → nDigits u ≤ k
  | 0, u, h, _ => by omega
  | k + 1, u, _, h => by
    by_cases h10 : u < 10
    · rw [nDigits_small h10]; omega
    · rw [nDigits_big h10]
      have h2 : u < 10 * 10 ^ k := by rw [Nat.pow_succ] at h; omega
      have : u / 10 < 10 ^ k := by omega
      by_cases hk : k = 0
      · subst hk; omega
      · have := nDigits_le k (u / 10) (by omega) this; omega

theorem wrap_in (n : Int) (h0 : -9223372036854775808 ≤ n) (h1 : n ≤ 9223372036854775807) : wrap64 n = n := by unfold wrap64; omega

theorem rl_dec (u : Nat) (h : u ≤ 9223372036854775808) : rl 0 0 (decDigits u) = some (-(u : Int)) := by
  induction u using Nat.strongRecOn with
  | _ u ih =>
    by_cases h10 : u < 10
    · rw [decDigits_one h10]
      simp only [rl, dig_nat u h10]
      rw [if_neg (by omega)]
      congr 1
      rw [wrap_in (10 * 0) (by omega) (by omega), wrap_in _ (by omega) (by omega)]
      omega
    · rw [decDigits, dif_neg h10, rl_append, ih (u / 10) (by omega) (by omega)]
      simp only [Option.bind_some, rl, dig_nat (u % 10) (by omega), decDigits_length]
      have hp : (10 : Nat) ^ 18 = 1000000000000000000 := by decide
      have hl : nDigits (u / 10) ≤ 18 := nDigits_le 18 _ (by omega) (by rw [hp]; omega)
      clear hp
      rw [if_neg (by omega)]
      congr 1
      rw [wrap_in (10 * _) (by omega) (by omega), wrap_in _ (by omega) (by omega)]
      omega

theorem dec_cons (u : Nat) : ∃ d r, d < 10 ∧ decDigits u = UInt8.ofNat (48 + d) :: r := by
  induction u using Nat.strongRecOn with
  | _ u ih =>
    by_cases h10 : u < 10
    · exact ⟨u, [], h10, decDigits_one h10⟩
    · obtain ⟨d, r, hd, e⟩ := ih (u / 10) (by omega)
      exact ⟨d, r ++ [UInt8.ofNat (48 + u % 10)], hd, by rw [decDigits, dif_neg h10, e]; rfl⟩

theorem mag_dec (u : Nat) (h : u < 18446744073709551616) : parseMag (decDigits u) = .ok u := by
  obtain ⟨d, r, _, e⟩ := dec_cons u
  unfold parseMag
  rw [if_neg (by rw [e]; exact fun h => by cases h), pu_dec u h]

/-- THE LIBRARY's PARSE READS THE NUMERAL BACK. -/
theorem atoi_itoa (n : Int) (h0 : -9223372036854775808 ≤ n) (h1 : n ≤ 9223372036854775807) : atoiAll (itoa n) = .ok n := by
  by_cases hn : n < 0
  · obtain ⟨u, rfl⟩ : ∃ u : Nat, n = -(u : Int) := ⟨n.natAbs, by omega⟩
    rw [itoa_neg u (by omega), atoiAll_minus, mag_dec u (by omega)]
    simp only [signed]
    rw [if_neg (by omega)]
  · obtain ⟨u, rfl⟩ : ∃ u : Nat, n = (u : Int) := ⟨n.toNat, by omega⟩
    rw [itoa_nonneg u]
    have hm := mag_dec u (by omega)
    obtain ⟨d, r, hd, e⟩ := dec_cons u
    rw [e] at hm ⊢
    have := dig_nat d hd
    rw [atoiAll_plain _ _ (by omega) (by omega), hm]
    simp only [signless]
    rw [if_neg (by omega)]

theorem itoa_inj (n m : Int) (h0 : -9223372036854775808 ≤ n) (h1 : n ≤ 9223372036854775807) (k0 : -9223372036854775808 ≤ m) (k1 : m ≤ 9223372036854775807) (h : itoa n = itoa m) : n = m := by
  have a := atoi_itoa n h0 h1
  rw [h, atoi_itoa m k0 k1] at a
  injection a with a; exact a.symm

/-- what the specification's Read makes of a string ahead of its last test -/
def rr (l : List UInt8) : Option Int :=
  match l with
  | [] => some 0
  | c :: r => if c = 45 then (rl 0 0 r).map fun n => wrap64 n else (rl 0 0 (c :: r)).map fun n => wrap64 (-n)

theorem rr_itoa (n : Int) (h0 : -9223372036854775808 ≤ n) (h1 : n ≤ 9223372036854775807) : rr (itoa n) = some n := by
  by_cases hn : n < 0
  · obtain ⟨u, rfl⟩ : ∃ u : Nat, n = -(u : Int) := ⟨n.natAbs, by omega⟩
    rw [itoa_neg u (by omega)]
    simp only [rr]
    rw [if_pos trivial, rl_dec u (by omega)]
    simp only [Option.map_some]
    rw [wrap_in _ (by omega) (by omega)]
  · obtain ⟨u, rfl⟩ : ∃ u : Nat, n = (u : Int) := ⟨n.toNat, by omega⟩
    rw [itoa_nonneg u]
    have hm := rl_dec u (by omega)
    obtain ⟨d, r, hd, e⟩ := dec_cons u
    rw [e] at hm ⊢
    have h45 : ¬ UInt8.ofNat (48 + d) = 45 := by
      intro e; have := dig_nat d hd; rw [e] at this; have e2 : (45 : UInt8).toNat = 45 := rfl; omega
    simp only [rr]
    rw [if_neg h45, hm]
    simp only [Option.map_some]
    rw [wrap_in _ (by omega) (by omega)]; congr 1; omega

theorem split_at (l : List UInt8) (k : Nat) (hk : k < l.length) : l = l.take k ++ (l[k] :: l.drop (k + 1)) := by
  rw [← List.drop_eq_getElem_cons hk, List.take_append_drop]

theorem rl_bad {l : List UInt8} {k : Nat} {m : Int} (hk : k < l.length) (h : rl 0 0 (l.take k) = some m) (hb : l[k].toNat < 48 ∨ 57 < l[k].toNat ∨ 19 ≤ k) : rl 0 0 l = none := by
  have e := split_at l k hk
  have hl : (l.take k).length = k := by rw [List.length_take]; omega
  have h2 : rl 0 0 (l.take k ++ (l[k] :: l.drop (k + 1))) = none := by
    rw [rl_append, h, hl]
    simp only [Option.bind_some, rl]
    rw [if_pos (by omega)]
  rw [← e] at h2; exact h2

theorem rl_good {l : List UInt8} {k : Nat} {m : Int} (hk : k < l.length) (h : rl 0 0 (l.take k) = some m) (h1 : 48 ≤ l[k].toNat) (h2 : l[k].toNat ≤ 57) (h3 : k < 19) :
    rl 0 0 (l.take (k + 1)) = some (wrap64 (wrap64 (10 * m) - ((l[k].toNat : Int) - 48))) := by
  have hl : (l.take k).length = k := by rw [List.length_take]; omega
  rw [List.take_succ_eq_append_getElem hk, rl_append, h, hl]
  simp only [Option.bind_some, rl]
  rw [if_neg (by omega)]

theorem no_of_none {l : List UInt8} (h : rr l = none) (n : Int) (h0 : -9223372036854775808 ≤ n) (h1 : n ≤ 9223372036854775807) : l ≠ itoa n := by
  intro e; rw [e, rr_itoa n h0 h1] at h; cases h
theorem no_of_some {l : List UInt8} {v : Int} (h : rr l = some v) (hv : l ≠ itoa v) (n : Int) (h0 : -9223372036854775808 ≤ n) (h1 : n ≤ 9223372036854775807) : l ≠ itoa n := by
  intro e; rw [e, rr_itoa n h0 h1] at h; injection h with h; rw [← h] at hv; exact hv e

/-- a string of a number, or of none -/
theorem some_or_none (l : List UInt8) : (∃ n : Int, -9223372036854775808 ≤ n ∧ n ≤ 9223372036854775807 ∧ l = itoa n) ∨ (∀ n : Int, -9223372036854775808 ≤ n → n ≤ 9223372036854775807 → l ≠ itoa n) := by
  by_cases h : ∃ n : Int, -9223372036854775808 ≤ n ∧ n ≤ 9223372036854775807 ∧ l = itoa n
  · exact .inl h
  · exact .inr fun n h0 h1 e => h ⟨n, h0, h1, e⟩
end Go.Proofs.YtlbfnmbodpfepaaDoor
