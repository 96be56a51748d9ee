/- What element of package run computes: where an element lies, or the number with which it traps. -/
import Derived.Test.YtfkjkdoloamakaaDoorRi
namespace Go.Proofs.YtfkjkdoloamakaaDoor
open Go.RowKit
set_option linter.unusedVariables false
variable {F : Nat → Prop} {w0 w : World} {M0 : Nat → Prop} {p : Nat} {U : UnS} {s : St}

theorem own_form {w : World} {base : Nat} {e : TypeId} {size n : Nat} {v : Value} {xs : List Value} (h : w.ownsRow base e size v n xs) (h0 : 0 < n) : ∃ g cap, v = .slice (some ⟨g, 0, none⟩) n cap := by
  rcases h.2 with ⟨_, h1⟩ | ⟨g, cap, cur, h1, _⟩
  · omega
  · exact ⟨g, cap, h1⟩
theorem own_cells {w : World} {v : Value} {l : List Int} (h : w.ownsRow 0 3 1 v l.length (numV l)) : ∃ A c, v = .slice A l.length c ∧ (0 < l.length → ∃ g, A = some ⟨g, 0, none⟩ ∧ ∀ j (hj : j < l.length), w.cell? ⟨g, j, none⟩ = some (.int .i64 l[j])) := by
  by_cases h0 : 0 < l.length
  · obtain ⟨g, cap, rfl⟩ := own_form h h0
    refine ⟨_, cap, rfl, fun _ => ⟨g, rfl, fun j hj => ?_⟩⟩
    rw [h.cellAt j (by simpa using hj)]
    simp [numV, hj]
  · obtain ⟨A, c, rfl⟩ := own_shape h
    exact ⟨A, c, rfl, fun h1 => absurd h1 h0⟩
theorem read_arr (o : OpI) (ho : o.k = 16 ∨ o.k = 25 ∨ o.k = 17) (w : World) (V : Env w) :
    Calls Tryd.prog 104 #[opV o] w fun e w' => ∃ A c, e = .returned (.slice A (readsArr o).length c) ∧ (0 < (readsArr o).length → ∃ g, A = some ⟨g, 0, none⟩ ∧ ∀ j (hj : j < (readsArr o).length), w'.cell? ⟨g, j, none⟩ = some (.int .i64 (readsArr o)[j])) ∧ Below w.heap.size w w' := by
  obtain ⟨k, d, a, b, c, n, g⟩ := o
  simp only at ho
  rcases ho with rfl | rfl | rfl
  · refine (read_any 16 d a b c n g (by omega) (by omega) (2, 0, 0) (by kernel_rfl) (by kernel_rfl) (by kernel_rfl) w V).mono ?_
    rintro e w' ⟨v, rfl, ho, hb⟩
    obtain ⟨A, cc, rfl, hc⟩ := own_cells ho
    exact ⟨A, cc, rfl, hc, hb⟩
  · refine (read_any 25 d a b c n g (by omega) (by omega) (2, 0, 0) (by kernel_rfl) (by kernel_rfl) (by kernel_rfl) w V).mono ?_
    rintro e w' ⟨v, rfl, ho, hb⟩
    obtain ⟨A, cc, rfl, hc⟩ := own_cells ho
    exact ⟨A, cc, rfl, hc, hb⟩
  · refine (read_any 17 d a b c n g (by omega) (by omega) (2, 4, 0) (by kernel_rfl) (by kernel_rfl) (by kernel_rfl) w V).mono ?_
    rintro e w' ⟨v, rfl, ho, hb⟩
    obtain ⟨A, cc, rfl, hc⟩ := own_cells ho
    exact ⟨A, cc, rfl, hc, hb⟩

theorem arrV_at : ∀ (gs : List Nat) (ls : List (List Int)) (_ : gs.length = ls.length) (i : Nat) (_ : i < ls.length), (arrV gs ls)[i]? = some (ownRow (gs.getD i 0) (ls.getD i []).length)
  | g :: gs, l :: ls, h, 0, _ => rfl
  | g :: gs, l :: ls, h, i + 1, hi => by
    simp only [arrV, List.getElem?_cons_succ, List.getD_cons_succ]
    exact arrV_at gs ls (by simpa using h) i (by simpa using hi)
  | [], [], _, i, hi => absurd hi (by simp)
section
variable {y : Lay} {L : EngL} (h : Eng y F w p U s L)
include h
theorem arr_at {n : Int} (h0 : 0 ≤ n) (h1 : n < s.arrs.length) : ∃ gv c, L.va = .slice (some ⟨gv, 0, none⟩) s.arrs.length c ∧ w.cell? ⟨gv, n.toNat, none⟩ = some (.slice (some ⟨L.ga.getD n.toNat 0, 0, none⟩) (s.arr n).length (s.arr n).length) := by
  obtain ⟨gv, c, e⟩ := own_form h.arrs (by omega)
  have ho := h.arrs
  rw [e] at ho
  exact ⟨gv, c, e, by rw [ho.cellAt n.toNat (by omega), arrV_at _ _ h.ga _ (by omega)]; rfl⟩
theorem inner_at {n i : Int} (h0 : 0 ≤ n) (h1 : n < s.arrs.length) (i0 : 0 ≤ i) (i1 : i < (s.arr n).length) : w.cell? ⟨L.ga.getD n.toNat 0, i.toNat, none⟩ = some (.int .i64 ((s.arr n).getD i.toNat 0)) ∧ w.frozen? ⟨L.ga.getD n.toNat 0, i.toNat, none⟩ = false := by
  have hb := h.inner n.toNat (by omega)
  have e : s.arrs[n.toNat]'(by omega) = s.arr n := by unfold St.arr; rw [List.getD_eq_getElem?_getD, List.getElem?_eq_getElem (by omega)]; rfl
  rw [e] at hb
  refine ⟨?_, hb.frozen _⟩
  rw [hb.cell, List.getElem?_toArray, List.getD_eq_getElem?_getD]
  have : i.toNat < (s.arr n).length := by omega
  simp [numV, this]
end
theorem readsArr_mem (o : OpI) {R : Int} (ha : inR o.a R) (hb : inR o.b R) : ∀ r ∈ readsArr o, 0 ≤ r ∧ r < R := by
  intro r hr
  unfold readsArr at hr
  split at hr
  · simp at hr; rcases hr with rfl | rfl
    · exact ha
    · exact hb
  · simp at hr; subst hr; exact ha
theorem readsArr_len (o : OpI) : (readsArr o).length ≤ 8 := by unfold readsArr; split <;> simp

set_option maxRecDepth 100000 in
set_option maxHeartbeats 2000000 in
theorem element_any (S : StGood U s) (G : UnGood U) {L : EngL} (E : Eng layP F w p U s L) (o : OpI) (ho : o.k = 16 ∨ o.k = 25 ∨ o.k = 17) (hO : OpGood U o) (V : Env w) (t : Int) (ht : elemT s o = t) :
    Calls Tryd.prog 119 #[.pointer (some ⟨p, 0, none⟩), opV o] w fun e w' => e = .returned (.tuple #[if t = 0 then .pointer (some ⟨L.ga.getD o.n.toNat 0, (s.reg o.a).1.toNat, none⟩) else .pointer none, .int .i64 t]) ∧ Below w.heap.size w w' := by
  have hRA : ∀ w1, Env w1 → _ := fun w1 V1 => read_arr o ho w1 V1
  obtain ⟨n0, n1⟩ := hO.arr (by omega)
  have hr := S.regs
  have ha0 := hO.a.1
  have ha1 : o.a < s.regs.length := by rw [hr]; exact hO.a.2
  have hmem := readsArr_mem o (R := (s.regs.length : Int)) (by rw [hr]; exact hO.a) (by rw [hr]; exact hO.b)
  have hal : (s.arr o.n).length ≤ 65536 := by
    unfold St.arr
    rw [List.getD_eq_getElem?_getD]
    cases h : s.arrs[o.n.toNat]? with
    | none => simp
    | some l => exact S.alen l (List.mem_of_getElem? h)
  have hns : s.arrs.length ≤ 16 := by rw [S.arrs]; exact G.ns
  have hn1 : o.n < s.arrs.length := by rw [S.arrs]; exact n1
  have hrl : s.regs.length ≤ 4096 := by have := G.r2; omega
  have hlen := readsArr_len o
  obtain ⟨k, d, a, b, c, n, g⟩ := o
  simp only at n0 hn1 ha0 ha1 hal
  obtain ⟨l, hl⟩ : ∃ l, l = readsArr ⟨k, d, a, b, c, n, g⟩ := ⟨_, rfl⟩
  obtain ⟨bd, hbd⟩ : ∃ bd, bd = badOf s.regs l := ⟨_, rfl⟩
  obtain ⟨iv, hiv⟩ : ∃ iv, iv = (s.reg a).1 := ⟨_, rfl⟩
  obtain ⟨al, hale⟩ : ∃ al, al = (s.arr n).length := ⟨_, rfl⟩
  have ht' : (if bd ≠ 0 then bd else if iv < 0 ∨ (al : Int) ≤ iv then -1 else 0) = t := by rw [hbd, hiv, hale, hl]; exact ht
  rw [← hl] at hmem hlen
  have HE := Lib.hid E
  have HV := Lib.hid V
  have HM := Lib.hid hmem
  have HBD := Lib.hid hbd
  have HIV := Lib.hid hiv
  have HAL := Lib.hid hale
  have HRA : Hid (∀ w1, Env w1 → Calls Tryd.prog 104 #[opV ⟨k, d, a, b, c, n, g⟩] w1 fun e w' => ∃ A c, e = .returned (.slice A l.length c) ∧ (0 < l.length → ∃ g, A = some ⟨g, 0, none⟩ ∧ ∀ j (hj : j < l.length), w'.cell? ⟨g, j, none⟩ = some (.int .i64 l[j])) ∧ Below w1.heap.size w1 w') := by
    intro w1 V1; rw [hl]; exact hRA w1 V1
  show Calls Tryd.prog 119 #[.pointer (some ⟨p, 0, none⟩), .agg #[.int .i64 k, .int .i64 d, .int .i64 a, .int .i64 b, .int .i64 c, .int .i64 n, .int .i64 g]] w fun e w' => e = .returned (.tuple #[if t = 0 then .pointer (some ⟨L.ga.getD n.toNat 0, (s.reg a).1.toNat, none⟩) else .pointer none, .int .i64 t]) ∧ Below w.heap.size w w'
  rw [← HIV.out]
  rw [← HAL.out] at hal
  clear hRA E V hmem hl hbd hiv hale ht hO ho S G n1 hr
  by_cases h0 : bd = 0
  · by_cases hi : iv < 0
    · have e1 : t = -1 := by rw [← ht', if_neg (fun h => h h0), if_pos (.inl hi)]
      subst e1
      subst h0
      clear ht'
      go_enter Tryd.func119, Tryd.ntmps119
      go_wp2_with (first
        | (go_at_call 104; refine (HRA.out _ (HV.out.below ((Below.refl _ _).alloc (Nat.le_refl _) _))).mono ?_; rintro e w1 ⟨A, cc, rfl, hcell, hb⟩; have E1 := HE.out.below (bel_box hb); have c6 := P6 E1; have c8 := P8 E1; obtain ⟨gv, cv, hva, carr⟩ := arr_at E1 n0 hn1; (rw [hva] at c8); (rw [← HAL.out] at carr); have r0 := reg0 E1 ha0 ha1; (rw [← HIV.out] at r0); have xc2 := cell_box hb 2 (.int .i64 a) rfl; have xc5 := cell_box hb 5 (.int .i64 n) rfl; have HE1 := Lib.hid E1; have HB := Lib.hid hb; have HC := Lib.hid hcell; clear hb E1 hcell hva)
        | (go_at_call 98; refine (bad_any HE1.out _ _ l HC.out HM.out hlen).mono ?_; rintro e w2 ⟨rfl, rfl⟩; (rw [← HBD.out])))
      go_quiet (fail)
      go_wp2_with fail
      go_quiet (fail)
      go_wp2
      go_ret2
      exact ⟨rfl, pw_drew (bel_box HB.out) _⟩
    by_cases hi2 : (al : Int) ≤ iv
    · have e1 : t = -1 := by rw [← ht', if_neg (fun h => h h0), if_pos (.inr hi2)]
      subst e1
      subst h0
      clear ht'
      go_enter Tryd.func119, Tryd.ntmps119
      go_wp2_with (first
        | (go_at_call 104; refine (HRA.out _ (HV.out.below ((Below.refl _ _).alloc (Nat.le_refl _) _))).mono ?_; rintro e w1 ⟨A, cc, rfl, hcell, hb⟩; have E1 := HE.out.below (bel_box hb); have c6 := P6 E1; have c8 := P8 E1; obtain ⟨gv, cv, hva, carr⟩ := arr_at E1 n0 hn1; (rw [hva] at c8); (rw [← HAL.out] at carr); have r0 := reg0 E1 ha0 ha1; (rw [← HIV.out] at r0); have xc2 := cell_box hb 2 (.int .i64 a) rfl; have xc5 := cell_box hb 5 (.int .i64 n) rfl; have HE1 := Lib.hid E1; have HB := Lib.hid hb; have HC := Lib.hid hcell; clear hb E1 hcell hva)
        | (go_at_call 98; refine (bad_any HE1.out _ _ l HC.out HM.out hlen).mono ?_; rintro e w2 ⟨rfl, rfl⟩; (rw [← HBD.out])))
      go_quiet (fail)
      go_wp2_with fail
      go_quiet (fail)
      go_wp2
      go_ret2
      exact ⟨rfl, pw_drew (bel_box HB.out) _⟩
    · have e1 : t = 0 := by rw [← ht', if_neg (fun h => h h0), if_neg (by omega)]
      subst e1
      subst h0
      simp only [if_true]
      obtain ⟨i0, i1⟩ : 0 ≤ iv ∧ iv < al := by omega
      clear ht' hi hi2
      go_enter Tryd.func119, Tryd.ntmps119
      go_wp2_with (first
        | (go_at_call 104; refine (HRA.out _ (HV.out.below ((Below.refl _ _).alloc (Nat.le_refl _) _))).mono ?_; rintro e w1 ⟨A, cc, rfl, hcell, hb⟩; have E1 := HE.out.below (bel_box hb); have c6 := P6 E1; have c8 := P8 E1; obtain ⟨gv, cv, hva, carr⟩ := arr_at E1 n0 hn1; (rw [hva] at c8); (rw [← HAL.out] at carr); have r0 := reg0 E1 ha0 ha1; (rw [← HIV.out] at r0); have xc2 := cell_box hb 2 (.int .i64 a) rfl; have xc5 := cell_box hb 5 (.int .i64 n) rfl; have HE1 := Lib.hid E1; have HB := Lib.hid hb; have HC := Lib.hid hcell; clear hb E1 hcell hva)
        | (go_at_call 98; refine (bad_any HE1.out _ _ l HC.out HM.out hlen).mono ?_; rintro e w2 ⟨rfl, rfl⟩; (rw [← HBD.out])))
      go_quiet (fail)
      go_wp2_with fail
      go_quiet (fail)
      go_wp2
      go_ret2
      exact ⟨rfl, pw_drew (bel_box HB.out) _⟩
  · have e1 : t = bd := by rw [← ht', if_pos h0]
    rw [e1, if_neg h0]
    clear ht' e1
    have tok : True := trivial
    · go_enter Tryd.func119, Tryd.ntmps119
      go_wp2_with (first
        | (go_at_call 104; refine (HRA.out _ (HV.out.below ((Below.refl _ _).alloc (Nat.le_refl _) _))).mono ?_; rintro e w1 ⟨A, cc, rfl, hcell, hb⟩; have E1 := HE.out.below (bel_box hb); have c6 := P6 E1; have c8 := P8 E1; obtain ⟨gv, cv, hva, carr⟩ := arr_at E1 n0 hn1; (rw [hva] at c8); (rw [← HAL.out] at carr); have r0 := reg0 E1 ha0 ha1; (rw [← HIV.out] at r0); have xc2 := cell_box hb 2 (.int .i64 a) rfl; have xc5 := cell_box hb 5 (.int .i64 n) rfl; have HE1 := Lib.hid E1; have HB := Lib.hid hb; have HC := Lib.hid hcell; clear hb E1 hcell hva)
        | (go_at_call 98; refine (bad_any HE1.out _ _ l HC.out HM.out hlen).mono ?_; rintro e w2 ⟨rfl, rfl⟩; (rw [← HBD.out])))
      go_ret2
      exact ⟨rfl, bel_box HB.out⟩
end Go.Proofs.YtfkjkdoloamakaaDoor
