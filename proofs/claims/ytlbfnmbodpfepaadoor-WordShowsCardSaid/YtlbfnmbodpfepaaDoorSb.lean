/- What Show and Read compute, of package word: a number's digits, and the number with a string, or ErrForm. -/
import Derived.Test.YtlbfnmbodpfepaaDoorSa
import Derived.Test.YtlbfnmbodpfepaaDoorShelf
import Derived.Test.YtlbfnmbodpfepaaDoorWa
import Derived.WalkSmall
import Derived.Lib.AppendIntMem
import Derived.Lib.AtoiErrMem
import Derived.Lib.ItoaLen
namespace Go.Proofs.YtlbfnmbodpfepaaDoor
open Go.RowKit Go.Lib

/-- WHAT THE LIBRARY's VARIABLES HOLD: the table of powers of ten, the two errors. -/
structure Env (w : World) : Prop where
  tab : TabIs Tryd.prog w "internal/strconv.uint64pow10" .u64 pow10Tab
  syn : ∃ tp p, w.var? Tryd.prog "strconv.ErrSyntax" = some #[.iface tp p]
  ran : ∃ tp p, w.var? Tryd.prog "strconv.ErrRange" = some #[.iface tp p]

theorem gSyn : Tryd.prog.globalNamed "strconv.ErrSyntax" = some 0 := by kernel_rfl
theorem gRan : Tryd.prog.globalNamed "strconv.ErrRange" = some 1 := by kernel_rfl

theorem lt_of_var {P : Program} {W : World} {n : String} {g : Nat} {cs : Array Value} (hg : P.globalNamed n = some g) (h : W.var? P n = some cs) : g < W.heap.size := by
  unfold World.var? at h
  rw [hg] at h
  rcases Nat.lt_or_ge g W.heap.size with h' | h'
  · exact h'
  · simp [Array.getElem?_eq_none h'] at h

theorem Env.below {B : Nat} {w w' : World} (h : Env w) (hb : Below B w w') (hB : w.heap.size ≤ B) : Env w' :=
  ⟨(tabBelow_of_tabIs h.tab).on (hb.mono hB) |>.here,
   (by obtain ⟨tp, p, hv⟩ := h.syn; exact ⟨tp, p, var?_below (hb.mono hB) gSyn (lt_of_var gSyn hv) hv⟩),
   (by obtain ⟨tp, p, hv⟩ := h.ran; exact ⟨tp, p, var?_below (hb.mono hB) gRan (lt_of_var gRan hv) hv⟩)⟩

theorem formatInt (n : Int) (h0 : -9223372036854775808 ≤ n) (h1 : n ≤ 9223372036854775807) (w : World) (E : Env w) :
    Calls Tryd.prog 11 #[.int .i64 n, .int .i64 10] w fun e w' => e = .returned (.string ⟨(itoa n).toArray⟩) ∧ Below w.heap.size w w' := by
  refine (Tryd.strconv_FormatInt_10 n h0 h1 w E.tab).mono ?_
  rintro e w' ⟨rfl, k, os, rfl⟩
  exact ⟨rfl, below_grow _ _ (Nat.le_refl _) _ _⟩

theorem show_any (n : Int) (h0 : -9223372036854775808 ≤ n) (h1 : n ≤ 9223372036854775807) (w : World) (E : Env w) :
    Calls Tryd.prog 7 #[.int .i64 n] w fun e w' => e = .returned (.string ⟨(itoa n).toArray⟩) ∧ Below w.heap.size w w' := by
  go_enter Tryd.func7, Tryd.ntmps7
  go_wp2_with (go_at_call 11; refine (formatInt n h0 h1 _ E).mono ?_; rintro e w' ⟨rfl, hb⟩)
  go_ret
  exact ⟨rfl, hb⟩

theorem rshow_any (n : Int) (h0 : -9223372036854775808 ≤ n) (h1 : n ≤ 9223372036854775807) (w : World) (E : Env w) :
    Calls Tryd.prog 8 #[.int .i64 n] w fun e w' => e = .returned (.string ⟨(itoa n).toArray⟩) ∧ Below w.heap.size w w' := by
  go_enter Tryd.func8, Tryd.ntmps8
  go_wp2_with (go_at_call 11; refine (formatInt n h0 h1 _ E).mono ?_; rintro e w' ⟨rfl, hb⟩)
  go_ret
  exact ⟨rfl, hb⟩

/-- how ParseInt ends -/
def PInt (s : ByteArray) (w : World) (e : Ending) (w' : World) : Prop :=
  ∃ v er, e = .returned (.tuple #[.int .i64 v, er]) ∧ Below w.heap.size w w' ∧ (atoiAll s.data.toList = .ok v ∧ er = .nilIface ∨ (∀ u, atoiAll s.data.toList ≠ .ok u) ∧ ∃ t p, er = .iface t p)

theorem parseInt (s : ByteArray) (hs : s.size ≤ 281474976710656) (w : World) (E : Env w) :
    Calls Tryd.prog 10 #[.string s, .int .i64 10, .int .i64 64] w (PInt s w) := by
  rcases h : atoiAll s.data.toList with v | _ | _
  · refine (Tryd.strconv_ParseInt_10_at64_ok s (by omega) v (by rw [parseIntB_64]; exact h) w).mono ?_
    rintro e w' ⟨rfl, hw⟩
    refine ⟨v, .nilIface, rfl, ?_, .inl ⟨h, rfl⟩⟩
    rcases hw with rfl | ⟨t, rfl⟩
    · exact Below.refl _ _
    · exact bytesWorld_below _ _ _
  · obtain ⟨tp, p, hv⟩ := E.syn
    have hP := (parseIntB_64 s.data.toList).trans h
    have hC := Any.strconv_ParseInt_10_at64_syntax_var Tryd.laysC174 s hs hP tp p w hv
    have hC' : Calls Tryd.prog 10 #[.string s, .int .i64 10, .int .i64 64] w _ := hC
    refine hC'.mono ?_
    rintro e w' ⟨N, rfl, _, _, hb⟩
    exact ⟨_, _, rfl, hb, .inr ⟨(fun u hu => by rw [h] at hu; cases hu), _, _, rfl⟩⟩
  · obtain ⟨tp, p, hv⟩ := E.ran
    refine (Tryd.strconv_ParseInt_10_at64_range_var s hs (by rw [parseIntB_64]; exact h) tp p w hv).mono ?_
    rintro e w' ⟨N, rfl, _, _, hb⟩
    exact ⟨_, _, rfl, hb, .inr ⟨(fun u hu => by rw [h] at hu; cases hu), _, _, rfl⟩⟩

theorem str_eq {s : ByteArray} {l : List UInt8} (h : s.data.toList = l) : s = ⟨l.toArray⟩ := by
  cases s; simp at h; simp [← h]

/-- Read at a number's string. -/
theorem read_yes (n : Int) (h0 : -9223372036854775808 ≤ n) (h1 : n ≤ 9223372036854775807) (w : World) (E : Env w) :
    Calls Tryd.prog 5 #[.string ⟨(itoa n).toArray⟩] w fun e w' => e = .returned (.tuple #[.int .i64 n, .int .i64 0]) ∧ Below w.heap.size w w' := by
  have hs : (⟨(itoa n).toArray⟩ : ByteArray).size ≤ 281474976710656 := by
    have := itoa_length_le n h0 h1
    show (itoa n).toArray.size ≤ _
    simp; omega
  have P : Calls Tryd.prog 10 #[.string ⟨(itoa n).toArray⟩, .int .i64 10, .int .i64 64] w fun e w' => e = .returned (.tuple #[.int .i64 n, .nilIface]) ∧ Below w.heap.size w w' := by
    refine (parseInt _ hs w E).mono ?_
    rintro e w' ⟨v, er, rfl, hb, ⟨hv, rfl⟩ | ⟨hv, _⟩⟩
    · rw [show (⟨(itoa n).toArray⟩ : ByteArray).data.toList = itoa n from rfl, atoi_itoa n h0 h1] at hv
      injection hv with hv; subst hv; exact ⟨rfl, hb⟩
    · exact absurd (atoi_itoa n h0 h1) (hv n)
  have E2 := fun (w' : World) (hb : Below w.heap.size w w') => E.below hb (Nat.le_refl _)
  clear hs
  obtain ⟨s, hse⟩ : ∃ s : ByteArray, s = ⟨(itoa n).toArray⟩ := ⟨_, rfl⟩
  have Q := fun w => show_any n h0 h1 w
  rw [← hse] at P Q ⊢
  clear hse
  go_enter Tryd.func5, Tryd.ntmps5
  go_wp2_with (first
    | (go_at_call 10; refine P.mono ?_; rintro e w1 ⟨rfl, hb⟩; have E1 := E2 _ hb; clear P E2)
    | (go_at_call 7; refine (Q _ E1).mono ?_; rintro e w2 ⟨rfl, hb2⟩))
  go_ret2
  exact ⟨rfl, hb.trans (hb2.mono hb.size)⟩

theorem ne_list {s t : ByteArray} (h : t ≠ s) : (t.toList == s.toList) = false := by
  rw [ByteArray.toList_eq, ByteArray.toList_eq]
  have : t.data.toList ≠ s.data.toList := fun e => h (by cases s; cases t; simp at e; simp [e])
  simpa using this

/-- Read at a string of no number. -/
theorem read_no (s : ByteArray) (hs : s.size ≤ 281474976710656) (hn : ∀ n : Int, -9223372036854775808 ≤ n → n ≤ 9223372036854775807 → s.data.toList ≠ itoa n) (w : World) (E : Env w) :
    Calls Tryd.prog 5 #[.string s] w fun e w' => e = .returned (.tuple #[.int .i64 0, .int .i64 4]) ∧ Below w.heap.size w w' := by
  have P := parseInt s hs w E
  have E2 := fun (w' : World) (hb : Below w.heap.size w w') => E.below hb (Nat.le_refl _)
  rcases h : atoiAll s.data.toList with v | _ | _
  · obtain ⟨b0, b1⟩ := atoiAll_bounds h
    have hne := hn v b0 b1
    have P1 : Calls Tryd.prog 10 #[.string s, .int .i64 10, .int .i64 64] w fun e w' => e = .returned (.tuple #[.int .i64 v, .nilIface]) ∧ Below w.heap.size w w' := by
      refine P.mono ?_
      rintro e w' ⟨v', er, rfl, hb, ⟨hv, rfl⟩ | ⟨hv, _⟩⟩
      · rw [h] at hv; injection hv with hv; subst hv; exact ⟨rfl, hb⟩
      · exact absurd h (hv v)
    have Q := fun w => show_any v b0 b1 w
    obtain ⟨t, hte⟩ : ∃ t : ByteArray, t = ⟨(itoa v).toArray⟩ := ⟨_, rfl⟩
    rw [← hte] at Q
    have hts : t ≠ s := by rintro rfl; exact hne (by rw [hte])
    have htb : (t.toList == s.toList) = false := ne_list hts
    clear hte h hne hn P hts
    go_enter Tryd.func5, Tryd.ntmps5
    go_wp2_with (first
      | (go_at_call 10; refine P1.mono ?_; rintro e w1 ⟨rfl, hb⟩; have E1 := E2 _ hb; clear P1 E2)
      | (go_at_call 7; refine (Q _ E1).mono ?_; rintro e w2 ⟨rfl, hb2⟩))
    go_ret2
    exact ⟨rfl, hb.trans (hb2.mono hb.size)⟩
  · have P1 : Calls Tryd.prog 10 #[.string s, .int .i64 10, .int .i64 64] w fun e w' => ∃ v t p, e = .returned (.tuple #[.int .i64 v, .iface t p]) ∧ Below w.heap.size w w' := by
      refine P.mono ?_
      rintro e w' ⟨v', er, rfl, hb, ⟨hv, rfl⟩ | ⟨hv, t, p, rfl⟩⟩
      · rw [h] at hv; cases hv
      · exact ⟨_, _, _, rfl, hb⟩
    clear h hn P E2
    go_enter Tryd.func5, Tryd.ntmps5
    go_wp2_with (go_at_call 10; refine P1.mono ?_; rintro e w1 ⟨v, t, p, rfl, hb⟩; clear P1)
    go_ret2
    exact ⟨rfl, hb⟩
  · have P1 : Calls Tryd.prog 10 #[.string s, .int .i64 10, .int .i64 64] w fun e w' => ∃ v t p, e = .returned (.tuple #[.int .i64 v, .iface t p]) ∧ Below w.heap.size w w' := by
      refine P.mono ?_
      rintro e w' ⟨v', er, rfl, hb, ⟨hv, rfl⟩ | ⟨hv, t, p, rfl⟩⟩
      · rw [h] at hv; cases hv
      · exact ⟨_, _, _, rfl, hb⟩
    clear h hn P E2
    go_enter Tryd.func5, Tryd.ntmps5
    go_wp2_with (go_at_call 10; refine P1.mono ?_; rintro e w1 ⟨v, t, p, rfl, hb⟩; clear P1)
    go_ret2
    exact ⟨rfl, hb⟩
end Go.Proofs.YtlbfnmbodpfepaaDoor
