/- The law RunNobody, walked. -/
import Derived.Test.YtfkjkdoloamakaaDoorNc
namespace Go.Proofs.YtfkjkdoloamakaaDoor
open Go.RowKit
set_option linter.unusedVariables false
set_option linter.unusedSimpArgs false
variable {w : World}

set_option maxRecDepth 100000 in
set_option maxHeartbeats 4000000 in
theorem law_nobody_false (a b : Int) (V : Env w) : Calls Tryd.prog 8 #[.bool false, .int .i64 a, .int .i64 b] w fun x w' => x = .returned (.bool true) ∧ Below w.heap.size w w' := by
  have HV := Lib.hid V
  clear V
  go_enter Tryd.func8, Tryd.ntmps8
  go_wp2_with fail
  refine (run_nob (.inl rfl) a).mono ?_
  rintro x w1 ⟨rfl, hb1⟩
  have hn1 : Nob w1 none := .inl rfl
  have hq1 : Below w.heap.size w w1 := hb1
  have HN1 := Lib.hid hn1
  have HQ1 := Lib.hid hq1
  clear hn1 hq1 hb1
  go_wp2_with fail
  refine (reg_nob (HN1.out.alloc _) a).mono ?_
  rintro x w2 ⟨rfl, hb2⟩
  have hs2 := hb2.size
  simp only [World.size_alloc] at hs2
  have o2 : Blk w2 w1.heap.size 30 #[.slice none 0 0, .int .i64 0, .int .i64 0] := (blk_new w1 rfl _ _).below hb2
  have hn2 : Nob w2 none := (HN1.out.alloc _).below hb2
  have hq2 : Below w.heap.size w w2 := (HQ1.out.alloc HQ1.out.size _).trans (hb2.mono (Nat.le_trans HQ1.out.size (by simp)))
  have HO2 := Lib.hid o2
  have HN2 := Lib.hid hn2
  have HQ2 := Lib.hid hq2
  clear o2 hn2 hq2 hb2
  go_wp2_with fail
  refine (cell_nob (HN2.out.alloc _) a b).mono ?_
  rintro x w3 ⟨rfl, hb3⟩
  have hs3 := hb3.size
  simp only [World.size_alloc] at hs3
  have o3 := (HO2.out.alloc (.cells #[.int .i64 0, .int .i64 0] 85)).below hb3
  have v3 : Blk w3 w2.heap.size 85 #[.int .i64 0, .int .i64 0] := (blk_new w2 rfl _ _).below hb3
  have hn3 : Nob w3 none := (HN2.out.alloc _).below hb3
  have hq3 : Below w.heap.size w w3 := (HQ2.out.alloc HQ2.out.size _).trans (hb3.mono (Nat.le_trans HQ2.out.size (by simp)))
  have HO3 := Lib.hid o3
  have HV3 := Lib.hid v3
  have HN3 := Lib.hid hn3
  have HQ3 := Lib.hid hq3
  clear o3 v3 hn3 hq3 hb3
  go_wp2_with fail
  refine (kept_nob HN3.out b).mono ?_
  rintro x w4 ⟨rfl, hb4⟩
  have hs4 := hb4.size
  have o4 := HO3.out.below hb4
  have v4 := HV3.out.below hb4
  have hn4 : Nob w4 none := HN3.out.below hb4
  have hq4 : Below w.heap.size w w4 := HQ3.out.trans (hb4.mono HQ3.out.size)
  have HO4 := Lib.hid o4
  have HV4 := Lib.hid v4
  have HN4 := Lib.hid hn4
  have HQ4 := Lib.hid hq4
  clear o4 v4 hn4 hq4 hb4
  go_wp2_with fail
  refine (where_nob (HN4.out.alloc _)).mono ?_
  rintro x w4' ⟨rfl, rfl⟩
  have o5 := HO4.out.alloc (.cells #[.int .i64 0, .int .i64 0] 85)
  have v5 := HV4.out.alloc (.cells #[.int .i64 0, .int .i64 0] 85)
  have u5 : Blk (w4.alloc (.cells #[.int .i64 0, .int .i64 0] 85)) w4.heap.size 85 #[.int .i64 0, .int .i64 0] := blk_new w4 rfl _ _
  have c0 : w4.cell? ⟨w1.heap.size, 0, none⟩ = some (.slice none 0 0) := (HO4.out.cell 0).trans rfl
  have c1 : w4.cell? ⟨w1.heap.size, 1, none⟩ = some (.int .i64 0) := (HO4.out.cell 1).trans rfl
  have c2 : w4.cell? ⟨w1.heap.size, 2, none⟩ = some (.int .i64 0) := (HO4.out.cell 2).trans rfl
  have l1 := HO4.out.lt
  have l2 := HV4.out.lt
  have n1 : w1.heap.size ≠ w4.heap.size := by omega
  have n1' := n1.symm
  have n2 : w2.heap.size ≠ w4.heap.size := by omega
  have n2' := n2.symm
  have HO5 := Lib.hid o5
  have HV5 := Lib.hid v5
  have HU5 := Lib.hid u5
  clear o5 v5 u5
  go_wp2_with fail
  refine (outs_true 0 0 [] (RdN.nil _) (RdN.nil _) (by decide)).mono ?_
  rintro x w5 ⟨rfl, hb5⟩
  have hs5 := hb5.size
  simp only [World.size_alloc] at hs5
  have v6 := HV5.out.below hb5
  have u6 := HU5.out.below hb5
  have d0 : w5.cell? ⟨w2.heap.size, 0, none⟩ = some (.int .i64 0) := (v6.cell 0).trans rfl
  have d1 : w5.cell? ⟨w2.heap.size, 1, none⟩ = some (.int .i64 0) := (v6.cell 1).trans rfl
  have d2 : w5.cell? ⟨w4.heap.size, 0, none⟩ = some (.int .i64 0) := (u6.cell 0).trans rfl
  have d3 : w5.cell? ⟨w4.heap.size, 1, none⟩ = some (.int .i64 0) := (u6.cell 1).trans rfl
  have hn5 : Nob w5 none := (HN4.out.alloc _).below hb5
  have hq5 : Below w.heap.size w w5 := (HQ4.out.alloc HQ4.out.size _).trans (hb5.mono (Nat.le_trans HQ4.out.size (by simp)))
  have HN5 := Lib.hid hn5
  have HQ5 := Lib.hid hq5
  clear hn5 hq5 hb5 v6 u6
  go_wp2_with fail
  refine (steps_nob HN5.out).mono ?_
  rintro x w5' ⟨rfl, rfl⟩
  go_wp2_with fail
  refine (copy_nob HN5.out).mono ?_
  rintro x w5' ⟨rfl, rfl⟩
  go_wp2_with fail
  refine (alive_true (HV.out.below HQ5.out)).mono ?_
  rintro x w6 ⟨rfl, hb6⟩
  go_wp2
  go_ret
  exact ⟨rfl, HQ5.out.trans (hb6.mono HQ5.out.size)⟩

set_option maxRecDepth 100000 in
set_option maxHeartbeats 4000000 in
theorem law_nobody_true (a b : Int) (V : Env w) : Calls Tryd.prog 8 #[.bool true, .int .i64 a, .int .i64 b] w fun x w' => x = .returned (.bool true) ∧ Below w.heap.size w w' := by
  have HV := Lib.hid V
  clear V
  go_enter Tryd.func8, Tryd.ntmps8
  go_wp2_with fail
  refine (run_nob (.inr ⟨w.heap.size, rfl, ?_⟩) a).mono ?_
  · simp [go_sem]
  rintro x w1 ⟨rfl, hb1⟩
  have hn1 : Nob w1 (some ⟨w.heap.size, 0, none⟩) := .inr ⟨_, rfl, (hb1.cell (p := ⟨w.heap.size, 5, none⟩) (by simp)).trans (by simp [go_sem])⟩
  have hq1 : Below w.heap.size w w1 := ((Below.refl _ w).alloc (Nat.le_refl _) _).trans (hb1.mono (by simp))
  have HN1 := Lib.hid hn1
  have HQ1 := Lib.hid hq1
  clear hn1 hq1 hb1
  go_wp2_with fail
  refine (reg_nob (HN1.out.alloc _) a).mono ?_
  rintro x w2 ⟨rfl, hb2⟩
  have hs2 := hb2.size
  simp only [World.size_alloc] at hs2
  have o2 : Blk w2 w1.heap.size 30 #[.slice none 0 0, .int .i64 0, .int .i64 0] := (blk_new w1 rfl _ _).below hb2
  have hn2 : Nob w2 (some ⟨w.heap.size, 0, none⟩) := (HN1.out.alloc _).below hb2
  have hq2 : Below w.heap.size w w2 := (HQ1.out.alloc HQ1.out.size _).trans (hb2.mono (Nat.le_trans HQ1.out.size (by simp)))
  have HO2 := Lib.hid o2
  have HN2 := Lib.hid hn2
  have HQ2 := Lib.hid hq2
  clear o2 hn2 hq2 hb2
  go_wp2_with fail
  refine (cell_nob (HN2.out.alloc _) a b).mono ?_
  rintro x w3 ⟨rfl, hb3⟩
  have hs3 := hb3.size
  simp only [World.size_alloc] at hs3
  have o3 := (HO2.out.alloc (.cells #[.int .i64 0, .int .i64 0] 85)).below hb3
  have v3 : Blk w3 w2.heap.size 85 #[.int .i64 0, .int .i64 0] := (blk_new w2 rfl _ _).below hb3
  have hn3 : Nob w3 (some ⟨w.heap.size, 0, none⟩) := (HN2.out.alloc _).below hb3
  have hq3 : Below w.heap.size w w3 := (HQ2.out.alloc HQ2.out.size _).trans (hb3.mono (Nat.le_trans HQ2.out.size (by simp)))
  have HO3 := Lib.hid o3
  have HV3 := Lib.hid v3
  have HN3 := Lib.hid hn3
  have HQ3 := Lib.hid hq3
  clear o3 v3 hn3 hq3 hb3
  go_wp2_with fail
  refine (kept_nob HN3.out b).mono ?_
  rintro x w4 ⟨rfl, hb4⟩
  have hs4 := hb4.size
  have o4 := HO3.out.below hb4
  have v4 := HV3.out.below hb4
  have hn4 : Nob w4 (some ⟨w.heap.size, 0, none⟩) := HN3.out.below hb4
  have hq4 : Below w.heap.size w w4 := HQ3.out.trans (hb4.mono HQ3.out.size)
  have HO4 := Lib.hid o4
  have HV4 := Lib.hid v4
  have HN4 := Lib.hid hn4
  have HQ4 := Lib.hid hq4
  clear o4 v4 hn4 hq4 hb4
  go_wp2_with fail
  refine (where_nob (HN4.out.alloc _)).mono ?_
  rintro x w4' ⟨rfl, rfl⟩
  have o5 := HO4.out.alloc (.cells #[.int .i64 0, .int .i64 0] 85)
  have v5 := HV4.out.alloc (.cells #[.int .i64 0, .int .i64 0] 85)
  have u5 : Blk (w4.alloc (.cells #[.int .i64 0, .int .i64 0] 85)) w4.heap.size 85 #[.int .i64 0, .int .i64 0] := blk_new w4 rfl _ _
  have c0 : w4.cell? ⟨w1.heap.size, 0, none⟩ = some (.slice none 0 0) := (HO4.out.cell 0).trans rfl
  have c1 : w4.cell? ⟨w1.heap.size, 1, none⟩ = some (.int .i64 0) := (HO4.out.cell 1).trans rfl
  have c2 : w4.cell? ⟨w1.heap.size, 2, none⟩ = some (.int .i64 0) := (HO4.out.cell 2).trans rfl
  have l1 := HO4.out.lt
  have l2 := HV4.out.lt
  have n1 : w1.heap.size ≠ w4.heap.size := by omega
  have n1' := n1.symm
  have n2 : w2.heap.size ≠ w4.heap.size := by omega
  have n2' := n2.symm
  have HO5 := Lib.hid o5
  have HV5 := Lib.hid v5
  have HU5 := Lib.hid u5
  clear o5 v5 u5
  go_wp2_with fail
  refine (outs_true 0 0 [] (RdN.nil _) (RdN.nil _) (by decide)).mono ?_
  rintro x w5 ⟨rfl, hb5⟩
  have hs5 := hb5.size
  simp only [World.size_alloc] at hs5
  have v6 := HV5.out.below hb5
  have u6 := HU5.out.below hb5
  have d0 : w5.cell? ⟨w2.heap.size, 0, none⟩ = some (.int .i64 0) := (v6.cell 0).trans rfl
  have d1 : w5.cell? ⟨w2.heap.size, 1, none⟩ = some (.int .i64 0) := (v6.cell 1).trans rfl
  have d2 : w5.cell? ⟨w4.heap.size, 0, none⟩ = some (.int .i64 0) := (u6.cell 0).trans rfl
  have d3 : w5.cell? ⟨w4.heap.size, 1, none⟩ = some (.int .i64 0) := (u6.cell 1).trans rfl
  have hn5 : Nob w5 (some ⟨w.heap.size, 0, none⟩) := (HN4.out.alloc _).below hb5
  have hq5 : Below w.heap.size w w5 := (HQ4.out.alloc HQ4.out.size _).trans (hb5.mono (Nat.le_trans HQ4.out.size (by simp)))
  have HN5 := Lib.hid hn5
  have HQ5 := Lib.hid hq5
  clear hn5 hq5 hb5 v6 u6
  go_wp2_with fail
  refine (steps_nob HN5.out).mono ?_
  rintro x w5' ⟨rfl, rfl⟩
  go_wp2_with fail
  refine (copy_nob HN5.out).mono ?_
  rintro x w5' ⟨rfl, rfl⟩
  go_wp2_with fail
  refine (alive_true (HV.out.below HQ5.out)).mono ?_
  rintro x w6 ⟨rfl, hb6⟩
  go_wp2
  go_ret
  exact ⟨rfl, HQ5.out.trans (hb6.mono HQ5.out.size)⟩

theorem law_nobody (z : Bool) (a b : Int) (V : Env w) : Calls Tryd.prog 8 #[.bool z, .int .i64 a, .int .i64 b] w fun x w' => x = .returned (.bool true) ∧ Below w.heap.size w w' := by
  cases z
  · exact law_nobody_false a b V
  · exact law_nobody_true a b V
end Go.Proofs.YtfkjkdoloamakaaDoor
