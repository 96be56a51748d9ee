/- order, of the laws of layer 7, walked: an order of the numbers from 0 on, of which the first ones stay. -/
import Derived.Test.YtfkjkdoloamakaaDoorVa
import Derived.Test.YtfkjkdoloamakaaDoorKb
import Derived.Test.YtfkjkdoloamakaaDoorMh
namespace Go.Proofs.YtfkjkdoloamakaaDoor
open Go.RowKit
set_option linter.unusedVariables false
set_option linter.unusedSimpArgs false
variable {w : World} {F : Nat → Prop}

theorem ixL_set (l : List Int) (i j v : Int) (hi : inR i l.length) (hj : 0 ≤ j) : ixL (l.set i.toNat v) j = if j = i then v else ixL l j := by
  obtain ⟨h1, h2⟩ := hi
  unfold ixL
  rw [getD_setI _ _ _ _ (by omega)]
  by_cases e : j = i
  · rw [if_pos (by rw [e]), if_pos e]
  · rw [if_neg (by omega), if_neg e]
def swapL (l : List Int) (i k : Int) : List Int := (l.set i.toNat (ixL l k)).set k.toNat (ixL l i)
theorem swapL_length (l : List Int) (i k : Int) : (swapL l i k).length = l.length := by simp [swapL]
theorem ixL_swap (l : List Int) (i k j : Int) (hi : inR i l.length) (hk : inR k l.length) (hj : 0 ≤ j) : ixL (swapL l i k) j = if j = k then ixL l i else if j = i then ixL l k else ixL l j := by
  unfold swapL
  rw [ixL_set _ _ _ _ (by rw [List.length_set]; exact hk) hj, ixL_set _ _ _ _ hi hj]
theorem Ord.swap {l : List Int} {n : Int} (h : Ord l n) {i k : Int} (hi : inR i n) (hk : inR k n) : Ord (swapL l i k) n := by
  have hi' : inR i l.length := by rw [h.len]; exact hi
  have hk' : inR k l.length := by rw [h.len]; exact hk
  refine ⟨by rw [swapL_length]; exact h.len, fun j hj => ?_, fun a b ha hb e => ?_⟩
  · rw [ixL_swap _ _ _ _ hi' hk' hj.1]
    split
    · exact h.rng _ hi
    · split
      · exact h.rng _ hk
      · exact h.rng _ hj
  · rw [ixL_swap _ _ _ _ hi' hk' ha.1, ixL_swap _ _ _ _ hi' hk' hb.1] at e
    have i1 := h.inj i b hi hb
    have i2 := h.inj i k hi hk
    have i3 := h.inj k i hk hi
    have i4 := h.inj k b hk hb
    have i5 := h.inj a i ha hi
    have i6 := h.inj a k ha hk
    have i7 := h.inj a b ha hb
    repeat' split at e
    all_goals first
      | omega
      | (have := i1 e; omega)
      | (have := i2 e; omega)
      | (have := i3 e; omega)
      | (have := i4 e; omega)
      | (have := i5 e; omega)
      | (have := i6 e; omega)
      | exact i7 e
theorem Stay.swap {l : List Int} {m : Int} (h : Stay l m) {i k : Int} (hi : inR i l.length) (hk : inR k l.length) (h1 : m ≤ i) (h2 : m ≤ k) : Stay (swapL l i k) m := fun j hj => by
  have h3 := hj.2
  rw [ixL_swap _ _ _ _ hi hk hj.1, if_neg (by omega), if_neg (by omega)]
  exact h j hj
def rangeI (n : Nat) : List Int := (List.range n).map fun i : Nat => (i : Int)
theorem rangeI_length (n : Nat) : (rangeI n).length = n := by simp [rangeI]
theorem rangeI_succ (n : Nat) : rangeI (n + 1) = rangeI n ++ [(n : Int)] := by simp [rangeI, List.range_succ]
theorem rangeI_at (n : Nat) (i : Int) (h : inR i n) : ixL (rangeI n) i = i := by
  obtain ⟨h1, h2⟩ := h
  unfold ixL rangeI
  rw [List.getD_eq_getElem?_getD, List.getElem?_map, List.getElem?_range (by omega)]
  simp; omega
theorem rangeI_ord (n : Nat) : Ord (rangeI n) n := by
  refine ⟨by rw [rangeI_length], fun i hi => by rw [rangeI_at n i hi]; exact hi, fun i j hi hj e => ?_⟩
  rw [rangeI_at n i hi, rangeI_at n j hj] at e
  exact e
theorem rangeI_stay (n : Nat) (m : Int) (h : m ≤ n) : Stay (rangeI n) m := fun i hi => rangeI_at n i ⟨hi.1, by have := hi.2; omega⟩
theorem numV_at (l : List Int) (i : Nat) (h : i < l.length) : (numV l)[i]? = some (.int .i64 (ixL l i)) := by
  unfold numV ixL
  rw [List.getElem?_map, List.getElem?_eq_getElem h, Int.toNat_natCast, List.getD_eq_getElem?_getD, List.getElem?_eq_getElem h]
  rfl

set_option maxRecDepth 100000 in
set_option maxHeartbeats 1000000 in
theorem order_any (first many : Int) (hf0 : 0 ≤ first) (hfm : first ≤ many) (hm : many ≤ 1000000) (told : List Int) (At : Option Addr) (ct : Nat) (hT : Row F w (.slice At told.length ct) told.length 1 (told.map (Value.int .u8))) (ht : ∀ x ∈ told, 0 ≤ x ∧ x ≤ 255) :
    Calls Tryd.prog 44 #[.int .i64 first, .int .i64 many, .slice At told.length ct] w fun x w' => ∃ v l, x = .returned v ∧ Ord l many ∧ Stay l first ∧ w'.ownsRow w.heap.size 3 1 v l.length (numV l) ∧ Below w.heap.size w w' := by
  obtain ⟨n, rfl⟩ : ∃ n : Nat, many = n := ⟨many.toNat, by omega⟩
  obtain ⟨f, rfl⟩ : ∃ f : Nat, first = f := ⟨first.toNat, by omega⟩
  obtain ⟨i0, hi, hz0, hz1, hz2⟩ := info_parts inf_int
  obtain ⟨nt, hnt⟩ : ∃ nt, nt = told.length := ⟨_, rfl⟩
  rw [← hnt]
  have HNT := Lib.hid hnt
  have HT := Lib.hid hT
  have HTR := Lib.hid ht
  clear hT ht hnt
  go_enter Tryd.func44, Tryd.ntmps44
  go_wp2
  go_loopw [7, 8] (fun v7 v8 wr => ∃ k : Nat, k ≤ n ∧ v8 = .int .i64 k ∧ wr.ownsRow w.heap.size 3 1 v7 k (numV (rangeI k)) ∧ Below w.heap.size w wr) (fun _ v8 _ => n - (intOf v8).toNat)
  case atStart => exact ⟨0, Nat.zero_le _, rfl, World.ownsRow_nil _ _ _ _, Below.refl _ _⟩
  case round =>
    obtain ⟨k, hk, rfl, ho, hb⟩ := hrel
    have hsz := hb.size
    obtain ⟨A5, c5, rfl⟩ := own_shape ho
    have HO := Lib.hid ho
    have HB := Lib.hid hb
    clear ho hb
    by_cases hlt : k < n
    · go_wp2_with (at_builtin; refine wpList_append_own_at _ rfl _ _ 22 rfl w.heap.size 3 i0 (.int .i64 0) 1 8 Tryd.underlying22 hi hz0 hz1 hz2 rfl (by decide) _ _ _ rfl (own_fr HO.out (M := fun _ => False) ((Fr.refl _ wr).alloc _) (fun _ _ => not_false)) ⟨wr.heap.size, 0, none⟩ 1 1 [.int .i64 k] rfl rfl ?c1 ?c2 ?c3 ?c4 ?c5 ?_; (case c1 => exact cell_new _ _ (by simp) _ _); (case c2 => exact one_mem rfl); (case c3 => (unfold maxLen; omega)); (case c4 => omega); (case c5 => (simp; omega)); intro v' w1 hown1 hg1 _hx hat1; obtain ⟨A1, c1, rfl⟩ := own_shape hown1; have HO1 := Lib.hid hown1; have HG1 := Lib.hid hg1; clear hown1 hg1 hat1 _hx)
      go_roundw
      case rel => exact ⟨k + 1, by omega, by go_num, by rw [rangeI_succ]; have h := HO1.out; simpa [numV] using h, (HB.out.alloc HB.out.size _).grown HG1.out (by simp; omega) (fun g hg => by have := HO.out.lt g hg; exact this.1)⟩
      case measure => simp [intOf]; omega
    · obtain rfl : k = n := by omega
      have hcase : k = 0 ∨ ∃ g, A5 = some ⟨g, 0, none⟩ := by
        rcases HO.out.2 with ⟨e, _⟩ | ⟨g, cap, cur, e, _⟩
        · injection e with e1 e2; exact .inl e2
        · injection e with e1 e2; exact .inr ⟨g, e1⟩
      have HC := Lib.hid hcase
      clear hcase
      go_wp2
      go_loopw [9] (fun v9 wr2 => ∃ (i : Int) (l : List Int), -1 ≤ i ∧ i < k ∧ v9 = .int .i64 i ∧ Ord l k ∧ Stay l f ∧ wr2.ownsRow w.heap.size 3 1 (.slice A5 k c5) k (numV l) ∧ Below w.heap.size w wr2) (fun v9 _ => (intOf v9 + 1).toNat)
      case atStart => exact ⟨(k : Int) - 1, rangeI k, by omega, by omega, by go_num, rangeI_ord k, rangeI_stay k f hfm, HO.out, HB.out⟩
      case round =>
        obtain ⟨i, l, hi0, hi1, rfl, hO, hS, ho, hb⟩ := hrel
        have HO2 := Lib.hid ho
        have HB2 := Lib.hid hb
        have HORD := Lib.hid hO
        have HST := Lib.hid hS
        clear ho hb hO hS
        have fin : ∃ v l', Value.slice A5 k c5 = v ∧ Ord l' k ∧ Stay l' f ∧ wr.ownsRow w.heap.size 3 1 v l'.length (numV l') ∧ Below w.heap.size w wr :=
          ⟨_, l, rfl, HORD.out, HST.out, (by have := HORD.out.len; have e : l.length = k := (by omega); rw [e]; exact HO2.out), HB2.out⟩
        have FIN := Lib.hid fin
        clear fin
        by_cases hgt : (f : Int) < i
        · by_cases hnt : 0 < nt
          · have hnt0 : (0 : Int) < nt := by omega
            have hntz : ¬ (nt : Int) = 0 := by omega
            obtain ⟨a, rfl⟩ : ∃ a : Nat, i = a := ⟨i.toNat, by omega⟩
            obtain ⟨g, rfl⟩ := HC.out.resolve_left (by omega)
            obtain ⟨j, hj⟩ : ∃ j : Nat, (a : Int).tmod nt = j := ⟨((a : Int).tmod nt).toNat, by have := Int.tmod_nonneg (nt : Int) (show (0 : Int) ≤ a by omega); omega⟩
            have hjlt : j < nt := by have := Int.tmod_lt_of_pos (a : Int) hnt0; omega
            have hrow := HT.out.fr (M := fun _ => False) (Fr.of_below HB2.out) fun _ _ => not_false
            rw [← HNT.out] at hrow
            obtain ⟨gt, ot, rfl, _, hc⟩ := row_at hrow hjlt
            obtain ⟨b, hbe⟩ : ∃ b, b = told.getD j 0 := ⟨_, rfl⟩
            have hjt : j < told.length := by rw [← HNT.out]; exact hjlt
            have hck : wr.cell? ⟨gt, ot + j, none⟩ = some (.int .u8 b) := hc _ (by rw [List.getElem?_map, List.getElem?_eq_getElem hjt, hbe, List.getD_eq_getElem?_getD, List.getElem?_eq_getElem hjt]; rfl)
            have hbr := HTR.out b (by rw [hbe, List.getD_eq_getElem?_getD, List.getElem?_eq_getElem hjt]; exact List.getElem_mem hjt)
            have hb0 := hbr.1
            have hb1 := hbr.2
            have hd0 : (0 : Int) < a - f + 1 := by omega
            obtain ⟨q, hq⟩ : ∃ q, (b + (a : Int) * 7).tmod ((a : Int) - f + 1) = q := ⟨_, rfl⟩
            have hq0 : 0 ≤ q := by rw [← hq]; exact Int.tmod_nonneg _ (by omega)
            have hq1 : q < (a : Int) - f + 1 := by rw [← hq]; exact Int.tmod_lt_of_pos _ hd0
            obtain ⟨e, he⟩ : ∃ e : Nat, (f : Int) + q = e := ⟨((f : Int) + q).toNat, by omega⟩
            have hlen : l.length = k := by have := HORD.out.len; omega
            have ha1 : a < k := by omega
            have he1 : e < k := by omega
            have ca : wr.cell? ⟨g, a, none⟩ = some (.int .i64 (ixL l a)) := (HO2.out.cellAt a (by omega)).trans (numV_at l a (by omega))
            have ce : wr.cell? ⟨g, e, none⟩ = some (.int .i64 (ixL l e)) := (HO2.out.cellAt e (by omega)).trans (numV_at l e (by omega))
            have fa := HO2.out.frozenAt a
            have fe := HO2.out.frozenAt e
            obtain ⟨x, hx⟩ : ∃ x, x = ixL l a := ⟨_, rfl⟩
            obtain ⟨y, hy⟩ : ∃ y, y = ixL l e := ⟨_, rfl⟩
            rw [← hx] at ca
            rw [← hy] at ce
            have hsw : (wr.setCell ⟨g, a, none⟩ (.int .i64 y) |>.setCell ⟨g, e, none⟩ (.int .i64 x)).ownsRow w.heap.size 3 1 (.slice (some ⟨g, 0, none⟩) k c5) k (numV (swapL l a e)) ∧ Below w.heap.size w (wr.setCell ⟨g, a, none⟩ (.int .i64 y) |>.setCell ⟨g, e, none⟩ (.int .i64 x)) := by
              have hg : w.heap.size ≤ g := (HO2.out.lt g rfl).1
              refine ⟨?_, (HB2.out.setCell hg _).setCell hg _⟩
              have h1 := ((HO2.out.stored a (.int .i64 y)).1.stored e (.int .i64 x)).1
              rw [numV_set, numV_set] at h1
              unfold swapL
              rw [Int.toNat_natCast, Int.toNat_natCast, ← hx, ← hy]
              exact h1
            have hst := (HO2.out.stored a (.int .i64 y)).1
            obtain ⟨z, ce2⟩ : ∃ z, (wr.setCell ⟨g, a, none⟩ (.int .i64 y)).cell? ⟨g, e, none⟩ = some z := ⟨_, (hst.cellAt e (by omega)).trans (List.getElem?_eq_getElem (by simp [numV]; omega))⟩
            have fe2 := hst.frozenAt e
            clear hst
            have HSW := Lib.hid hsw
            have HLEN := Lib.hid hlen
            clear hsw hx hy hlen hrow hc hbe hbr hjt
            go_upto_region 10 with fail
            go_region
            all_goals
              go_wp2
              go_roundw
              case rel => exact ⟨(a : Int) - 1, _, by omega, by omega, by go_num, HORD.out.swap ⟨by omega, by omega⟩ ⟨by omega, by omega⟩, HST.out.swap ⟨by omega, by rw [HLEN.out]; omega⟩ ⟨by omega, by rw [HLEN.out]; omega⟩ (by omega) (by omega), HSW.out.1, HSW.out.2.drew⟩
              case measure => first | (simp [intOf]; done) | (simp [intOf]; omega)
          · have hnz : ¬ (0 : Int) < nt := by omega
            go_wp2
            go_ret
            obtain ⟨v, l', rfl, h⟩ := FIN.out
            exact ⟨_, rfl, l', h⟩
        · go_wp2
          go_ret
          obtain ⟨v, l', rfl, h⟩ := FIN.out
          exact ⟨_, rfl, l', h⟩
end Go.Proofs.YtfkjkdoloamakaaDoor
