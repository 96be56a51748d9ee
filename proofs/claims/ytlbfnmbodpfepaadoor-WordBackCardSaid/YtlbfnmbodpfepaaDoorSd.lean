/- The walks of the laws WordShows and WordBack: each answers true for every number and every string. -/
import Derived.Test.YtlbfnmbodpfepaaDoorSc
import Derived.Test.YtlbfnmbodpfepaaDoorWl
namespace Go.Proofs.YtlbfnmbodpfepaaDoor
open Go.RowKit Go.Lib

theorem rread_yes (n : Int) (h0 : -9223372036854775808 ≤ n) (h1 : n ≤ 9223372036854775807) (s : ByteArray) (hs : s.size ≤ 281474976710656) (hl : s.data.toList = itoa n) (w : World) (E : Env w) :
    Calls Tryd.prog 6 #[.string s] w fun e w' => e = .returned (.tuple #[.int .i64 n, .bool true]) ∧ Below w.heap.size w w' := by
  refine (rread_any s hs w E).mono ?_
  rintro e w' ⟨v, b, rfl, hb, ⟨rfl, k0, k1, hv⟩ | ⟨_, _, hv⟩⟩
  · rw [itoa_inj n v h0 h1 k0 k1 (by rw [← hl, ← hv])]; exact ⟨rfl, hb⟩
  · exact absurd hl (hv n h0 h1)
theorem rread_no (s : ByteArray) (hs : s.size ≤ 281474976710656) (hn : ∀ n : Int, -9223372036854775808 ≤ n → n ≤ 9223372036854775807 → s.data.toList ≠ itoa n) (w : World) (E : Env w) :
    Calls Tryd.prog 6 #[.string s] w fun e w' => e = .returned (.tuple #[.int .i64 0, .bool false]) ∧ Below w.heap.size w w' := by
  refine (rread_any s hs w E).mono ?_
  rintro e w' ⟨v, b, rfl, hb, ⟨rfl, k0, k1, hv⟩ | ⟨rfl, rfl, _⟩⟩
  · exact absurd hv (hn v k0 k1)
  · exact ⟨rfl, hb⟩

/-- what a law's walk leaves -/
def Yes (w : World) (e : Ending) (w' : World) : Prop := e = .returned (.bool true) ∧ Below w.heap.size w w'

set_option maxHeartbeats 1000000 in
theorem law_shows (n : Int) (h0 : -9223372036854775808 ≤ n) (h1 : n ≤ 9223372036854775807) (s : ByteArray) (hs : s.size ≤ 281474976710656) (w : World) (E : Env w) :
    Calls Tryd.prog 3 #[.int .i64 n, .string s] w (Yes w) := by
  have EB := fun (w w' : World) (E : Env w) (hb : Below w.heap.size w w') => Env.below E hb (Nat.le_refl _)
  have Q := fun w => show_any n h0 h1 w
  have Q2 := fun w => rshow_any n h0 h1 w
  obtain ⟨t, hte⟩ : ∃ t : ByteArray, t = ⟨(itoa n).toArray⟩ := ⟨_, rfl⟩
  rw [← hte] at Q Q2
  have htb : (t.toList == t.toList) = true := by simp
  rcases some_or_none s.data.toList with ⟨v, v0, v1, hv⟩ | hno
  · have R := fun w => read_yes v v0 v1 w
    rw [← str_eq hv] at R
    have R2 := fun w => rread_yes v v0 v1 s hs hv w
    clear hte hv
    go_enter Tryd.func3, Tryd.ntmps3
    go_wp2_with (first
      | (go_at_call 5; refine (R _ E).mono ?_; rintro e w1 ⟨rfl, hb1⟩; have E1 := EB _ _ E hb1; clear R)
      | (go_at_call 6; refine (R2 _ E1).mono ?_; rintro e w2 ⟨rfl, hb2⟩; have E2 := EB _ _ E1 hb2; clear R2)
      | (go_at_call 7; refine (Q _ E2).mono ?_; rintro e w3 ⟨rfl, hb3⟩; have E3 := EB _ _ E2 hb3; clear Q)
      | (go_at_call 8; refine (Q2 _ E3).mono ?_; rintro e w4 ⟨rfl, hb4⟩; clear Q2)
      | (go_at_call 9; refine (alive_any _).mono ?_; rintro e w5 ⟨rfl, hb5⟩))
    go_ret
    exact ⟨rfl, bel_trans (bel_trans (bel_trans (bel_trans hb1 hb2) hb3) hb4) hb5⟩
  · have R := fun w => read_no s hs hno w
    have R2 := fun w => rread_no s hs hno w
    clear hte hno
    go_enter Tryd.func3, Tryd.ntmps3
    go_wp2_with (first
      | (go_at_call 5; refine (R _ E).mono ?_; rintro e w1 ⟨rfl, hb1⟩; have E1 := EB _ _ E hb1; clear R)
      | (go_at_call 6; refine (R2 _ E1).mono ?_; rintro e w2 ⟨rfl, hb2⟩; have E2 := EB _ _ E1 hb2; clear R2)
      | (go_at_call 7; refine (Q _ E2).mono ?_; rintro e w3 ⟨rfl, hb3⟩; have E3 := EB _ _ E2 hb3; clear Q)
      | (go_at_call 8; refine (Q2 _ E3).mono ?_; rintro e w4 ⟨rfl, hb4⟩; clear Q2)
      | (go_at_call 9; refine (alive_any _).mono ?_; rintro e w5 ⟨rfl, hb5⟩))
    go_ret
    exact ⟨rfl, bel_trans (bel_trans (bel_trans (bel_trans hb1 hb2) hb3) hb4) hb5⟩

set_option maxHeartbeats 1000000 in
theorem law_back (n : Int) (h0 : -9223372036854775808 ≤ n) (h1 : n ≤ 9223372036854775807) (s : ByteArray) (hs : s.size ≤ 281474976710656) (w : World) (E : Env w) :
    Calls Tryd.prog 4 #[.int .i64 n, .string s] w (Yes w) := by
  have EB := fun (w w' : World) (E : Env w) (hb : Below w.heap.size w w') => Env.below E hb (Nat.le_refl _)
  have Q := fun w => show_any n h0 h1 w
  have R := fun w => read_yes n h0 h1 w
  obtain ⟨t, hte⟩ : ∃ t : ByteArray, t = ⟨(itoa n).toArray⟩ := ⟨_, rfl⟩
  rw [← hte] at Q R
  clear hte
  rcases some_or_none s.data.toList with ⟨v, v0, v1, hv⟩ | hno
  · have S := fun w => read_yes v v0 v1 w
    have Q2 := fun w => show_any v v0 v1 w
    rw [← str_eq hv] at S Q2
    have htb : (s.toList == s.toList) = true := by simp
    clear hv
    have tok : True := trivial
    go_enter Tryd.func4, Tryd.ntmps4
    go_wp2_with (first
      | (go_at_call 7; refine (Q _ E).mono ?_; rintro e w1 ⟨rfl, hb1⟩; have E1 := EB _ _ E hb1; clear Q)
      | (go_at_call 5; refine (R _ E1).mono ?_; rintro e w2 ⟨rfl, hb2⟩; have E2 := EB _ _ E1 hb2; clear R)
      | (go_at_call 5; refine (S _ E2).mono ?_; rintro e w3 ⟨rfl, hb3⟩; have E3 := EB _ _ E2 hb3; clear S)
      | (go_at_call 7; refine (Q2 _ E3).mono ?_; rintro e w4 ⟨rfl, hb4⟩; clear Q2)
      | (go_at_call 9; refine (alive_any _).mono ?_; rintro e w5 ⟨rfl, hb5⟩))
    go_ret
    exact ⟨rfl, bel_trans (bel_trans (bel_trans (bel_trans hb1 hb2) hb3) hb4) hb5⟩
  · have S := fun w => read_no s hs hno w
    clear hno
    go_enter Tryd.func4, Tryd.ntmps4
    go_wp2_with (first
      | (go_at_call 7; refine (Q _ E).mono ?_; rintro e w1 ⟨rfl, hb1⟩; have E1 := EB _ _ E hb1; clear Q)
      | (go_at_call 5; refine (R _ E1).mono ?_; rintro e w2 ⟨rfl, hb2⟩; have E2 := EB _ _ E1 hb2; clear R)
      | (go_at_call 5; refine (S _ E2).mono ?_; rintro e w3 ⟨rfl, hb3⟩; clear S)
      | (go_at_call 9; refine (alive_any _).mono ?_; rintro e w5 ⟨rfl, hb5⟩))
    go_ret
    exact ⟨rfl, bel_trans (bel_trans (bel_trans hb1 hb2) hb3) hb5⟩
end Go.Proofs.YtlbfnmbodpfepaaDoor
