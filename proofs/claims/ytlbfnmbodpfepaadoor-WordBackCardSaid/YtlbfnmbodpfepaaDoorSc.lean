/- What the specification's Read computes: the number with a string, or false. -/
import Derived.Test.YtlbfnmbodpfepaaDoorSb
import Derived.LoopTactic
namespace Go.Proofs.YtlbfnmbodpfepaaDoor
open Go.RowKit Go.Lib

/-- how the specification's Read ends -/
def RPost (s : ByteArray) (w : World) (e : Ending) (w' : World) : Prop :=
  ∃ v b, e = .returned (.tuple #[.int .i64 v, .bool b]) ∧ Below w.heap.size w w' ∧
    (b = true ∧ -9223372036854775808 ≤ v ∧ v ≤ 9223372036854775807 ∧ s.data.toList = itoa v ∨ b = false ∧ v = 0 ∧ ∀ n : Int, -9223372036854775808 ≤ n → n ≤ 9223372036854775807 → s.data.toList ≠ itoa n)

theorem rpost_no {s : ByteArray} {w w' : World} (hb : Below w.heap.size w w') (h : rr s.data.toList = none) : RPost s w (.returned (.tuple #[.int .i64 0, .bool false])) w' :=
  ⟨0, false, rfl, hb, .inr ⟨rfl, rfl, fun n h0 h1 => no_of_none h n h0 h1⟩⟩
theorem rpost_other {s : ByteArray} {w w' : World} {v : Int} (hb : Below w.heap.size w w') (h : rr s.data.toList = some v) (hne : ¬ s.data.toList = itoa v) : RPost s w (.returned (.tuple #[.int .i64 0, .bool false])) w' :=
  ⟨0, false, rfl, hb, .inr ⟨rfl, rfl, fun n h0 h1 => no_of_some h hne n h0 h1⟩⟩
theorem rpost_yes {s : ByteArray} {w w' : World} {v : Int} (hb : Below w.heap.size w w') (h0 : -9223372036854775808 ≤ v) (h1 : v ≤ 9223372036854775807) (h : s.data.toList = itoa v) : RPost s w (.returned (.tuple #[.int .i64 v, .bool true])) w' :=
  ⟨v, true, rfl, hb, .inl ⟨rfl, h0, h1, h⟩⟩
theorem rel_0 : rl 0 0 ([] : List UInt8) = some 0 := rfl
theorem wrap_lo (n : Int) : -9223372036854775808 ≤ wrap64 n ∧ wrap64 n ≤ 9223372036854775807 := by unfold wrap64; omega
theorem get_list (s : ByteArray) (k : Nat) (h : k < s.size) : s.data.toList[k]'(by simpa using h) = s[k] := rfl
theorem len_list (s : ByteArray) : s.data.toList.length = s.size := by simp
theorem eq_list {s t : ByteArray} {l : List UInt8} (ht : t = ⟨l.toArray⟩) : (s.data.toList = l → t = s) := by
  intro h; subst ht; cases s; simp at h; simp [← h]
theorem list_eq {s t : ByteArray} (h : t = s) : (t.toList == s.toList) = true := by simp [h]

theorem head_list (s : ByteArray) (h0 : 0 < s.size) : s.data.toList = (s[0]'h0) :: (s.extract 1 s.size).data.toList := by
  have h1 : 0 < s.data.toList.length := by simpa using h0
  have e : s.data.toList = s.data.toList[0] :: s.data.toList.drop 1 := by rw [← List.drop_eq_getElem_cons h1]; rfl
  have e2 : (s.extract 1 s.size).data.toList = s.data.toList.drop 1 := by
    rw [ByteArray.data_extract, Array.toList_extract, List.extract_eq_take_drop, List.take_of_length_le (by simp)]
  rw [e2]; exact e
theorem rr_plain (s : ByteArray) (h0 : 0 < s.size) (h45 : ¬ ((s[0]'h0).toNat : Int) = 45) : rr s.data.toList = (rl 0 0 s.data.toList).map fun n => wrap64 (-n) := by
  have h := head_list s h0
  rw [h]; simp only [rr]
  rw [if_neg (fun e => h45 (by rw [e]; rfl))]
theorem rr_minus (s : ByteArray) (h0 : 0 < s.size) (h45 : ((s[0]'h0).toNat : Int) = 45) : rr s.data.toList = (rl 0 0 (s.extract 1 s.size).data.toList).map fun n => wrap64 n := by
  have h := head_list s h0
  have e45 : (45 : UInt8).toNat = 45 := rfl
  have h2 : s[0]'h0 = 45 := UInt8.toNat_inj.1 (by rw [e45]; omega)
  rw [h]; simp only [rr]
  rw [if_pos h2]

set_option maxHeartbeats 1000000 in
theorem rread_plain (s : ByteArray) (_hs : s.size ≤ 281474976710656) (w : World) (E : Env w) (h0 : 0 < s.size) (h45 : (((s[0]'h0).toNat : Int) == 45) = false) :
    Calls Tryd.prog 6 #[.string s] w (RPost s w) := by
  have hrr0 : rr s.data.toList = (rl 0 0 s.data.toList).map fun n => wrap64 (-n) := rr_plain s h0 (by simpa using h45)
  have HR0 := Lib.hid hrr0
  clear hrr0
  go_enter Tryd.func6, Tryd.ntmps6
  go_wp2
  go_loop [6, 7] (fun n i => ∃ (k : Nat) (m : Int), k ≤ s.size ∧ i = .int .i64 k ∧ n = .int .i64 m ∧ rl 0 0 (s.data.toList.take k) = some m) (fun _ i => s.size - (RowKit.intOf i).toNat)
  case atStart => exact ⟨0, 0, Nat.zero_le _, rfl, rfl, rel_0⟩
  case round =>
    obtain ⟨k, m, hk, rfl, rfl, hrl⟩ := hrel
    by_cases hlt : k < s.size
    · have hgl := get_list s k hlt
      have hll := len_list s
      by_cases hb : s[k].toNat < 48 ∨ 57 < s[k].toNat ∨ 19 ≤ k
      · have hbad : rl 0 0 s.data.toList = none := rl_bad (k := k) (m := m) (by omega) hrl (by rw [hgl]; exact hb)
        have HB := Lib.hid hbad
        clear hbad hrl hgl hll
        rcases hb with hb | hb | hb
        all_goals
          go_wp2
          all_goals
            go_ret2
            exact rpost_no (Below.refl _ _) (by rw [HR0.out, HB.out]; rfl)
      · have hg := rl_good (k := k) (m := m) (by omega) hrl (by rw [hgl]; omega) (by rw [hgl]; omega) (by omega)
        rw [hgl] at hg
        have HG := Lib.hid hg
        have h48 : 48 ≤ (s[k].toNat : Int) := by omega
        have h57 : (s[k].toNat : Int) ≤ 57 := by omega
        have h19 : k < 19 := by omega
        clear hg hrl hgl hll hb
        go_wp2
        go_round
        case rel => exact ⟨k + 1, _, by omega, by go_num, rfl, HG.out⟩
        case measure => simp [RowKit.intOf]; omega
    · have hall : s.data.toList.take k = s.data.toList := List.take_of_length_le (by rw [len_list]; omega)
      rw [hall] at hrl
      have HR := Lib.hid hrl
      clear hall hrl
      obtain ⟨v, hv⟩ : ∃ v, v = wrap64 (-m) := ⟨_, rfl⟩
      obtain ⟨b0, b1⟩ : -9223372036854775808 ≤ v ∧ v ≤ 9223372036854775807 := by rw [hv]; exact wrap_lo _
      have Q := fun w => rshow_any v b0 b1 w
      obtain ⟨t, hte⟩ : ∃ t : ByteArray, t = ⟨(itoa v).toArray⟩ := ⟨_, rfl⟩
      rw [← hte] at Q
      have HT := Lib.hid hte
      have HV := Lib.hid hv
      have hrr : rr s.data.toList = some v := by rw [HR0.out, HR.out, hv]; rfl
      have HRR := Lib.hid hrr
      clear hrr
      by_cases hst : s.data.toList = itoa v
      · have htb : (t.toList == s.toList) = true := list_eq (eq_list hte hst)
        have HST := Lib.hid hst
        rw [hv] at Q
        clear hv hte hst
        go_wp2_with (go_at_call 8; refine (Q _ E).mono ?_; rintro e w1 ⟨rfl, hb1⟩; clear Q)
        all_goals
          rw [← HV.out]
          go_ret2
          exact rpost_yes hb1 b0 b1 HST.out
      · have htb : (t.toList == s.toList) = false := ne_list (fun e => hst (by rw [← e, hte]))
        have HST := Lib.hid hst
        rw [hv] at Q
        clear hv hte hst
        go_wp2_with (go_at_call 8; refine (Q _ E).mono ?_; rintro e w1 ⟨rfl, hb1⟩; clear Q)
        go_ret2
        exact rpost_other hb1 HRR.out HST.out

set_option maxHeartbeats 1000000 in
theorem rread_minus (s : ByteArray) (hs : s.size ≤ 281474976710656) (w : World) (E : Env w) (h0 : 0 < s.size) (h45 : (((s[0]'h0).toNat : Int) == 45) = true) :
    Calls Tryd.prog 6 #[.string s] w (RPost s w) := by
  obtain ⟨D, hDe⟩ : ∃ D : ByteArray, D = s.extract 1 s.size := ⟨_, rfl⟩
  have hrr0 : rr s.data.toList = (rl 0 0 D.data.toList).map fun n => wrap64 n := by rw [hDe]; exact rr_minus s h0 (by simpa using h45)
  have HR0 := Lib.hid hrr0
  clear hrr0
  have hD : D.size ≤ 281474976710656 := by rw [hDe]; simp [ByteArray.size_extract]; omega
  have HD : Hid (D = s.extract 1 s.size) := hDe
  clear hDe
  go_enter Tryd.func6, Tryd.ntmps6
  go_wp2
  rw [← HD.out]
  go_loop [6, 7] (fun n i => ∃ (k : Nat) (m : Int), k ≤ D.size ∧ i = .int .i64 k ∧ n = .int .i64 m ∧ rl 0 0 (D.data.toList.take k) = some m) (fun _ i => D.size - (RowKit.intOf i).toNat)
  case atStart => exact ⟨0, 0, Nat.zero_le _, rfl, rfl, rel_0⟩
  case round =>
    obtain ⟨k, m, hk, rfl, rfl, hrl⟩ := hrel
    by_cases hlt : k < D.size
    · have hgl := get_list D k hlt
      have hll := len_list D
      by_cases hb : D[k].toNat < 48 ∨ 57 < D[k].toNat ∨ 19 ≤ k
      · have hbad : rl 0 0 D.data.toList = none := rl_bad (k := k) (m := m) (by omega) hrl (by rw [hgl]; exact hb)
        have HB := Lib.hid hbad
        clear hbad hrl hgl hll
        rcases hb with hb | hb | hb
        all_goals
          go_wp2
          all_goals
            go_ret2
            exact rpost_no (Below.refl _ _) (by rw [HR0.out, HB.out]; rfl)
      · have hg := rl_good (k := k) (m := m) (by omega) hrl (by rw [hgl]; omega) (by rw [hgl]; omega) (by omega)
        rw [hgl] at hg
        have HG := Lib.hid hg
        have h48 : 48 ≤ (D[k].toNat : Int) := by omega
        have h57 : (D[k].toNat : Int) ≤ 57 := by omega
        have h19 : k < 19 := by omega
        clear hg hrl hgl hll hb
        go_wp2
        go_round
        case rel => exact ⟨k + 1, _, by omega, by go_num, rfl, HG.out⟩
        case measure => simp [RowKit.intOf]; omega
    · have hall : D.data.toList.take k = D.data.toList := List.take_of_length_le (by rw [len_list]; omega)
      rw [hall] at hrl
      have HR := Lib.hid hrl
      clear hall hrl
      obtain ⟨v, hv⟩ : ∃ v, v = wrap64 m := ⟨_, rfl⟩
      obtain ⟨b0, b1⟩ : -9223372036854775808 ≤ v ∧ v ≤ 9223372036854775807 := by rw [hv]; exact wrap_lo _
      have Q := fun w => rshow_any v b0 b1 w
      obtain ⟨t, hte⟩ : ∃ t : ByteArray, t = ⟨(itoa v).toArray⟩ := ⟨_, rfl⟩
      rw [← hte] at Q
      have HT := Lib.hid hte
      have HV := Lib.hid hv
      have hrr : rr s.data.toList = some v := by rw [HR0.out, HR.out, hv]; rfl
      have HRR := Lib.hid hrr
      clear hrr
      by_cases hst : s.data.toList = itoa v
      · have htb : (t.toList == s.toList) = true := list_eq (eq_list hte hst)
        have HST := Lib.hid hst
        rw [hv] at Q
        clear hv hte hst
        go_wp2_with (go_at_call 8; refine (Q _ E).mono ?_; rintro e w1 ⟨rfl, hb1⟩; clear Q)
        all_goals
          rw [← HV.out]
          go_ret2
          exact rpost_yes hb1 b0 b1 HST.out
      · have htb : (t.toList == s.toList) = false := ne_list (fun e => hst (by rw [← e, hte]))
        have HST := Lib.hid hst
        rw [hv] at Q
        clear hv hte hst
        go_wp2_with (go_at_call 8; refine (Q _ E).mono ?_; rintro e w1 ⟨rfl, hb1⟩; clear Q)
        go_ret2
        exact rpost_other hb1 HRR.out HST.out

set_option maxHeartbeats 1000000 in
theorem rread_empty (s : ByteArray) (w : World) (E : Env w) (h0 : ¬ 0 < s.size) :
    Calls Tryd.prog 6 #[.string s] w (RPost s w) := by
  have hl : s.data.toList = [] := List.eq_nil_of_length_eq_zero (by rw [len_list]; omega)
  have hrr : rr s.data.toList = some 0 := by rw [hl]; rfl
  have Q := fun w => rshow_any 0 (by omega) (by omega) w
  obtain ⟨t, hte⟩ : ∃ t : ByteArray, t = ⟨(itoa 0).toArray⟩ := ⟨_, rfl⟩
  rw [← hte] at Q
  have hi : itoa 0 ≠ [] := by rw [show (0 : Int) = ((0 : Nat) : Int) from rfl, itoa_nonneg, decDigits_one (by omega)]; exact fun h => by cases h
  have hst : ¬ s.data.toList = itoa 0 := by rw [hl]; exact fun e => hi e.symm
  have htb : (t.toList == s.toList) = false := ne_list (fun e => hst (by rw [← e, hte]))
  have HRR := Lib.hid hrr
  have HST := Lib.hid hst
  clear hl hrr hte hi hst
  go_enter Tryd.func6, Tryd.ntmps6
  go_wp2
  go_loop [6, 7] (fun n i => n = .int .i64 0 ∧ i = .int .i64 0) (fun _ _ => 0)
  case atStart => exact ⟨rfl, rfl⟩
  case round =>
    obtain ⟨rfl, rfl⟩ := hrel
    go_wp2_with (go_at_call 8; refine (Q _ E).mono ?_; rintro e w1 ⟨rfl, hb1⟩; clear Q)
    go_ret2
    exact rpost_other hb1 HRR.out HST.out

theorem rread_any (s : ByteArray) (hs : s.size ≤ 281474976710656) (w : World) (E : Env w) :
    Calls Tryd.prog 6 #[.string s] w (RPost s w) := by
  by_cases h0 : 0 < s.size
  · by_cases h45 : (((s[0]'h0).toNat : Int) == 45) = true
    · exact rread_minus s hs w E h0 h45
    · exact rread_plain s hs w E h0 (by simpa using h45)
  · exact rread_empty s w E h0
end Go.Proofs.YtlbfnmbodpfepaaDoor
