/- What Moved, of the laws of layer 7, asks of the specification; rows that are written by it; what its loops keep. -/
import Derived.Test.YtfkjkdoloamakaaDoorVd
import Derived.Test.YtfkjkdoloamakaaDoorVc
import Derived.Test.YtfkjkdoloamakaaDoorVb
import Derived.Test.YtfkjkdoloamakaaDoorKd
namespace Go.Proofs.YtfkjkdoloamakaaDoor
open Go.RowKit
set_option linter.unusedVariables false
set_option linter.unusedSimpArgs false
variable {w : World} {F : Nat → Prop}

theorem hasD_any (k : Int) (w : World) : Calls Tryd.prog 45 #[.int .i64 k] w fun x w' => x = .returned (.bool (hasD k)) ∧ w = w' := by
  by_cases h1 : k = 17
  · subst h1; go_enter Tryd.func45, Tryd.ntmps45; go_wp2; go_ret; exact ⟨rfl, rfl⟩
  by_cases h2 : k = 19
  · subst h2; go_enter Tryd.func45, Tryd.ntmps45; go_wp2; go_ret; exact ⟨rfl, rfl⟩
  by_cases h3 : k = 20
  · subst h3; go_enter Tryd.func45, Tryd.ntmps45; go_wp2; go_ret; exact ⟨rfl, rfl⟩
  by_cases h4 : k = 21
  · subst h4; go_enter Tryd.func45, Tryd.ntmps45; go_wp2; go_ret; exact ⟨rfl, rfl⟩
  by_cases h5 : k = 22
  · subst h5; go_enter Tryd.func45, Tryd.ntmps45; go_wp2; go_ret; exact ⟨rfl, rfl⟩
  have e : hasD k = true := decide_eq_true ⟨h1, h2, h3, h4, h5⟩
  rw [e]
  have e1 : (k != 17) = true := by simpa using h1
  have e2 : (k != 19) = true := by simpa using h2
  have e3 : (k != 20) = true := by simpa using h3
  have e4 : (k != 21) = true := by simpa using h4
  have e5 : (k != 22) = true := by simpa using h5
  clear h1 h2 h3 h4 h5 e
  go_enter Tryd.func45, Tryd.ntmps45; go_wp2; go_ret; exact ⟨rfl, rfl⟩
theorem hasA_any (k : Int) (w : World) : Calls Tryd.prog 46 #[.int .i64 k] w fun x w' => x = .returned (.bool (hasA k)) ∧ w = w' := by
  by_cases h1 : k = 1
  · subst h1; go_enter Tryd.func46, Tryd.ntmps46; go_wp2; go_ret; exact ⟨rfl, rfl⟩
  by_cases h2 : k = 18
  · subst h2; go_enter Tryd.func46, Tryd.ntmps46; go_wp2; go_ret; exact ⟨rfl, rfl⟩
  have e : hasA k = true := decide_eq_true ⟨h1, h2⟩
  rw [e]
  have e1 : (k != 1) = true := by simpa using h1
  have e2 : (k != 18) = true := by simpa using h2
  clear h1 h2 e
  go_enter Tryd.func46, Tryd.ntmps46; go_wp2; go_ret; exact ⟨rfl, rfl⟩
theorem hasC_any (k : Int) (w : World) : Calls Tryd.prog 48 #[.int .i64 k] w fun x w' => x = .returned (.bool (hasC k)) ∧ w = w' := by
  by_cases h1 : k = 12
  · subst h1; go_enter Tryd.func48, Tryd.ntmps48; go_wp2; go_ret; exact ⟨rfl, rfl⟩
  have e : hasC k = false := decide_eq_false h1
  rw [e]
  have e1 : (k == 12) = false := by simpa using h1
  clear h1 e
  go_enter Tryd.func48, Tryd.ntmps48; go_wp2; go_ret; exact ⟨rfl, rfl⟩
theorem endA_any (k : Int) (w : World) : Calls Tryd.prog 49 #[.int .i64 k] w fun x w' => x = .returned (.bool (decide (k ≠ 1))) ∧ w = w' := by
  by_cases h1 : k = 1
  · subst h1; go_enter Tryd.func49, Tryd.ntmps49; go_wp2; go_ret; exact ⟨rfl, rfl⟩
  rw [decide_eq_true h1]
  have e1 : (k != 1) = true := by simpa using h1
  clear h1
  go_enter Tryd.func49, Tryd.ntmps49; go_wp2; go_ret; exact ⟨rfl, rfl⟩
theorem hasB_any (k : Int) (w : World) : Calls Tryd.prog 47 #[.int .i64 k] w fun x w' => x = .returned (.bool (hasB k)) ∧ w = w' := by
  by_cases h1 : k = 17
  · subst h1; go_enter Tryd.func47, Tryd.ntmps47; go_wp2; go_ret; exact ⟨rfl, rfl⟩
  by_cases h2 : k = 23
  · subst h2; go_enter Tryd.func47, Tryd.ntmps47; go_wp2; go_ret; exact ⟨rfl, rfl⟩
  by_cases h3 : k = 24
  · subst h3; go_enter Tryd.func47, Tryd.ntmps47; go_wp2; go_ret; exact ⟨rfl, rfl⟩
  have e1 : (k == 17) = false := by simpa using h1
  have e2 : (k == 23) = false := by simpa using h2
  have e3 : (k == 24) = false := by simpa using h3
  by_cases h4 : 3 ≤ k
  · by_cases h5 : k ≤ 15
    · have e : hasB k = true := decide_eq_true (.inl ⟨h4, h5⟩)
      rw [e]
      clear e h1 h2 h3
      go_enter Tryd.func47, Tryd.ntmps47; go_wp2; go_ret; exact ⟨rfl, rfl⟩
    · have e : hasB k = false := decide_eq_false (by omega)
      rw [e]
      clear e h1 h2 h3
      go_enter Tryd.func47, Tryd.ntmps47; go_wp2; go_ret; exact ⟨rfl, rfl⟩
  · have e : hasB k = false := decide_eq_false (by omega)
    rw [e]
    clear e h1 h2 h3
    go_enter Tryd.func47, Tryd.ntmps47; go_wp2; go_ret; exact ⟨rfl, rfl⟩

/-! ### rows -/
theorem row_nx {wa wb : World} {v : Value} {n size : Nat} {xs : List Value} (h : Row (fun g => g < wa.heap.size) wa v n size xs) (hf : Fr (fun _ => False) wa wb) : Row (fun g => g < wb.heap.size) wb v n size xs :=
  (h.fr hf fun _ _ => not_false).mono fun _ _ h => h
/-- an element of an order, by its place -/
theorem ix_at {l : List Int} {A : Option Addr} {c : Nat} (h : Row F w (.slice A l.length c) l.length 1 (numV l)) {i : Int} (hi : inR i l.length) : ∃ g o, A = some ⟨g, o, none⟩ ∧ F g ∧ w.cell? ⟨g, o + i.toNat, none⟩ = some (.int .i64 (ixL l i)) := by
  obtain ⟨h1, h2⟩ := hi
  obtain ⟨g, o, e, hF, hc⟩ := row_at h (k := i.toNat) (by omega)
  exact ⟨g, o, e, hF, hc _ (by rw [numV_at l i.toNat (by omega)]; rw [Int.toNat_of_nonneg h1])⟩
theorem ix_shape {l : List Int} {A : Option Addr} {c : Nat} (h : Row F w (.slice A l.length c) l.length 1 (numV l)) (hl : 0 < l.length) : ∃ g o, A = some ⟨g, o, none⟩ ∧ F g ∧ g < w.heap.size ∧ ∀ i, inR i l.length → w.cell? ⟨g, o + i.toNat, none⟩ = some (.int .i64 (ixL l i)) := by
  obtain ⟨_, A', c', e, _, _, hh⟩ := h
  injection e with e1 _ e2
  subst e1 e2
  obtain ⟨g, o, e3, hF, hlt, hc⟩ := hh hl
  refine ⟨g, o, e3, hF, hlt, fun i hi => ?_⟩
  obtain ⟨h1, h2⟩ := hi
  exact hc i.toNat _ (by rw [numV_at l i.toNat (by omega), Int.toNat_of_nonneg h1])
def blC (v : Value) (b : BlkS) : List Value := v :: edC b.ed ++ [.int .i64 b.ct]
theorem blsC_set6 : ∀ (vs : List Value) (bl : List BlkS) (j : Nat) (v : Value) (b : BlkS), vs.length = bl.length →
    (((((((blsC vs bl).set (j * 6) v).set (j * 6 + 1) (.int .i64 b.ed.k)).set (j * 6 + 2) (.int .i64 b.ed.a)).set (j * 6 + 3) (.int .i64 b.ed.t)).set (j * 6 + 4) (.int .i64 b.ed.l)).set (j * 6 + 5) (.int .i64 b.ct)) = blsC (vs.set j v) (bl.set j b)
  | [], [], j, v, b, _ => by simp [blsC]
  | u :: vs, c :: bl, 0, v, b, h => by simp [blsC, edC]
  | u :: vs, c :: bl, j + 1, v, b, h => by
    have ih := blsC_set6 vs bl j v b (by simpa using h)
    have e : (j + 1) * 6 = j * 6 + 1 + 1 + 1 + 1 + 1 + 1 := by omega
    rw [e]
    simp only [blsC, edC, List.cons_append, List.nil_append, List.set_cons_succ]
    rw [ih]
theorem own_six {base g n c : Nat} {e : TypeId} {xs : List Value} (h : w.ownsRow base e 6 (.slice (some ⟨g, 0, none⟩) n c) n xs) (j : Nat) (u0 u1 u2 u3 u4 u5 : Value) :
    ((((((w.setCell ⟨g, j, none⟩ u0).setCell ⟨g, j + 1, none⟩ u1).setCell ⟨g, j + 2, none⟩ u2).setCell ⟨g, j + 3, none⟩ u3).setCell ⟨g, j + 4, none⟩ u4).setCell ⟨g, j + 5, none⟩ u5).ownsRow base e 6 (.slice (some ⟨g, 0, none⟩) n c) n ((((((xs.set j u0).set (j + 1) u1).set (j + 2) u2).set (j + 3) u3).set (j + 4) u4).set (j + 5) u5) :=
  ((((((h.stored j u0).1.stored (j + 1) u1).1.stored (j + 2) u2).1.stored (j + 3) u3).1.stored (j + 4) u4).1.stored (j + 5) u5).1
theorem fr_six {M : Nat → Prop} {a w : World} (h : Fr M a w) {g : Nat} (hg : M g) (j : Nat) (u0 u1 u2 u3 u4 u5 : Value) :
    Fr M a ((((((w.setCell ⟨g, j, none⟩ u0).setCell ⟨g, j + 1, none⟩ u1).setCell ⟨g, j + 2, none⟩ u2).setCell ⟨g, j + 3, none⟩ u3).setCell ⟨g, j + 4, none⟩ u4).setCell ⟨g, j + 5, none⟩ u5) :=
  (((((h.setCell (p := ⟨g, j, none⟩) (.inl hg) u0).setCell (p := ⟨g, j + 1, none⟩) (.inl hg) u1).setCell (p := ⟨g, j + 2, none⟩) (.inl hg) u2).setCell (p := ⟨g, j + 3, none⟩) (.inl hg) u3).setCell (p := ⟨g, j + 4, none⟩) (.inl hg) u4).setCell (p := ⟨g, j + 5, none⟩) (.inl hg) u5
theorem opsC_snoc (B R : List Int) (l : List OpI) (m : Nat) (h : m < l.length) : opsC ((l.take (m + 1)).map (movO B R)) = opsC ((l.take m).map (movO B R)) ++ opC (movO B R (l.getD m dOp)) := by
  have app : ∀ (a b : List OpI), opsC (a ++ b) = opsC a ++ opsC b := fun a b => by
    induction a with
    | nil => rfl
    | cons x r ih => simp [opsC, ih, List.append_assoc]
  rw [List.take_succ_eq_append_getElem h, List.map_append, app, List.getD_eq_getElem?_getD, List.getElem?_eq_getElem h]
  simp [opsC]

/-! ### what the loop over the blocks keeps -/
/-- of the first i blocks the moved one stands at its new place -/
structure MovS (B R : List Int) (S : UnS) (base gb cb i : Nat) (wr : World) (bl : List BlkS) (vs : List Value) : Prop where
  vl : vs.length = S.blocks.length
  ll : bl.length = S.blocks.length
  own : wr.ownsRow base 73 6 (.slice (some ⟨gb, 0, none⟩) S.blocks.length cb) S.blocks.length (blsC vs bl)
  done : ∀ j, j < i → bl.getD (ixL B j).toNat dBl = movB B R (S.blocks.getD j dBl) ∧ Row (fun g => g ≠ gb ∧ base ≤ g) wr (vs.getD (ixL B j).toNat .nilFunc) (S.blocks.getD j dBl).ops.length 7 (opsC ((S.blocks.getD j dBl).ops.map (movO B R)))
theorem getD_setG {α : Type} (v d : α) (l : List α) (i k : Nat) (h : i < l.length) : (l.set i v).getD k d = if k = i then v else l.getD k d := by
  rw [List.getD_eq_getElem?_getD, List.getElem?_set]
  by_cases e : k = i
  · rw [if_pos e.symm, if_pos (e ▸ h), if_pos e]; rfl
  · rw [if_neg (fun x => e x.symm), if_neg e, List.getD_eq_getElem?_getD]
variable {B R : List Int} {S : UnS} {base gb cb i : Nat} {wr : World} {bl : List BlkS} {vs : List Value}
theorem MovS.fr {M : Nat → Prop} {w' : World} (h : MovS B R S base gb cb i wr bl vs) (hf : Fr M wr w') (hg : ¬ M gb) (hn : ∀ g, g < wr.heap.size → ¬ M g) : MovS B R S base gb cb i w' bl vs := by
  refine ⟨h.vl, h.ll, own_fr h.own hf fun k hk => by injection hk with hk; rw [← hk]; exact hg, fun j hj => ⟨(h.done j hj).1, ?_⟩⟩
  obtain ⟨h0, A, c, e, hc, hm, h1⟩ := (h.done j hj).2
  refine ⟨h0, A, c, e, hc, hm, fun hp => ?_⟩
  obtain ⟨g, o, ea, hF, hlt, hh⟩ := h1 hp
  exact ⟨g, o, ea, hF, Nat.lt_of_lt_of_le hlt hf.size, fun k u hu => hf.cell (hh k u hu) (hn g hlt)⟩
/-- one more block is put in its place -/
theorem MovS.next (h : MovS B R S base gb cb i wr bl vs) (hB : Ord B S.blocks.length) (hi : i < S.blocks.length) {w1 : World} {v : Value} {b' : BlkS} (hb : movB B R (S.blocks.getD i dBl) = b')
    (hr : Row (fun g => g ≠ gb ∧ base ≤ g) wr v (S.blocks.getD i dBl).ops.length 7 (opsC ((S.blocks.getD i dBl).ops.map (movO B R)))) (j : Nat) (hj : ixL B i = j)
    (e : w1 = ((((((wr.setCell ⟨gb, j * 6, none⟩ v).setCell ⟨gb, j * 6 + 1, none⟩ (.int .i64 b'.ed.k)).setCell ⟨gb, j * 6 + 2, none⟩ (.int .i64 b'.ed.a)).setCell ⟨gb, j * 6 + 3, none⟩ (.int .i64 b'.ed.t)).setCell ⟨gb, j * 6 + 4, none⟩ (.int .i64 b'.ed.l)).setCell ⟨gb, j * 6 + 5, none⟩ (.int .i64 b'.ct))) :
    MovS B R S base gb cb (i + 1) w1 (bl.set j b') (vs.set j v) := by
  have hf : Fr (fun b => b = gb) wr w1 := by rw [e]; exact fr_six (M := fun b => b = gb) (Fr.refl _ _) rfl _ _ _ _ _ _ _
  have ho := own_six h.own (j * 6) v (.int .i64 b'.ed.k) (.int .i64 b'.ed.a) (.int .i64 b'.ed.t) (.int .i64 b'.ed.l) (.int .i64 b'.ct)
  rw [blsC_set6 _ _ _ _ _ (by rw [h.vl, h.ll]), ← e] at ho
  have hjr := hB.rng i ⟨by omega, by omega⟩
  rw [hj] at hjr
  obtain ⟨r1, r2⟩ := hjr
  refine ⟨by rw [List.length_set]; exact h.vl, by rw [List.length_set]; exact h.ll, ho, fun k hk => ?_⟩
  rw [getD_setG _ _ _ _ _ (by rw [h.ll]; omega), getD_setG _ _ _ _ _ (by rw [h.vl]; omega)]
  by_cases hki : k = i
  · subst hki
    rw [hj, Int.toNat_natCast, if_pos rfl, if_pos rfl]
    exact ⟨hb.symm, hr.fr hf fun g hg e => hg.1 e⟩
  · have hk' : k < i := by omega
    have hkr := hB.rng k ⟨by omega, by omega⟩
    have hne : ¬ (ixL B k).toNat = j := fun e2 => by
      have e3 : ixL B k = ixL B i := by rw [hj]; have := hkr.1; omega
      have := hB.inj k i ⟨by omega, by omega⟩ ⟨by omega, by omega⟩ e3
      omega
    rw [if_neg hne, if_neg hne]
    exact ⟨(h.done k hk').1, (h.done k hk').2.fr hf fun g hg e => hg.1 e⟩
theorem moved_end {wk : World} (h : MovS B R S base gb cb i wr bl vs) (hB : Ord B S.blocks.length) (hi : i < S.blocks.length) {v : Value} {ops : List OpI} {k a t l c : Int} (hb : movB B R (S.blocks.getD i dBl) = ⟨ops, ⟨k, a, t, l⟩, c⟩)
    (hr : Row (fun g => g ≠ gb ∧ base ≤ g) wr v (S.blocks.getD i dBl).ops.length 7 (opsC ((S.blocks.getD i dBl).ops.map (movO B R)))) (j : Nat) (hj : ixL B i = j)
    {p9 : Nat} {cs : Array Value} (h9 : Blk wr p9 25 cs) (hne : gb ≠ p9) {v9 : Value} {nz : Nat} {xs : List Value} (hz : wr.ownsRow base 3 1 v9 nz xs) (hk : Fr (fun b => base ≤ b) wk wr) (hgb : base ≤ gb) (w1 : World)
    (e : w1 = ((((((wr.setCell ⟨gb, j * 6, none⟩ v).setCell ⟨gb, j * 6 + 1, none⟩ (.int .i64 k)).setCell ⟨gb, j * 6 + 2, none⟩ (.int .i64 a)).setCell ⟨gb, j * 6 + 3, none⟩ (.int .i64 t)).setCell ⟨gb, j * 6 + 4, none⟩ (.int .i64 l)).setCell ⟨gb, j * 6 + 5, none⟩ (.int .i64 c))) :
    MovS B R S base gb cb (i + 1) w1.drew (bl.set j ⟨ops, ⟨k, a, t, l⟩, c⟩) (vs.set j v) ∧ Blk w1.drew p9 25 cs ∧ w1.drew.ownsRow base 3 1 v9 nz xs ∧ Fr (fun b => base ≤ b) wk w1.drew := by
  have hn := h.next hB hi hb hr j hj e
  have hf : Fr (fun b => b = gb) wr w1 := by rw [e]; exact fr_six (M := fun b => b = gb) (Fr.refl _ _) rfl _ _ _ _ _ _ _
  clear e
  have hd : Fr (fun _ => False) w1 w1.drew := (Fr.refl _ _).drew
  refine ⟨hn.fr hd not_false (fun _ _ => not_false), (h9.fr hf (fun e => hne e.symm)).fr hd not_false, ?_, (hk.trans hf fun g e => .inl (by have e' : g = gb := e; show base ≤ g; omega)).then_ (hd.mono fun _ h => h.elim)⟩
  exact own_fr (own_fr hz hf fun g hg e => own_own_ne hz h.own (by decide) g hg (by rw [show g = gb from e]; rfl)) hd fun _ _ => not_false
theorem Ord.surj {l : List Int} {n : Nat} (h : Ord l n) {j : Nat} (hj : j < n) : ∃ i : Nat, i < n ∧ (ixL l i).toNat = j := by
  have := h.perm.mem_iff.2 (List.mem_range.2 hj)
  obtain ⟨i, hi, e⟩ := List.mem_map.1 this
  exact ⟨i, List.mem_range.1 hi, e⟩
/-- behind the loop the unit is moved, and lies where it was made -/
theorem MovS.mov (h : MovS B R S base gb cb S.blocks.length wr bl vs) (hR : Ord R S.regs) (hRs : Stay R S.params) (hB : Ord B S.blocks.length) (hBs : Stay B 1) {A : Option Addr} {c : Nat} (hz : wr.ownsRow base 3 1 (.slice A S.sizes.length c) S.sizes.length (numV S.sizes)) :
    Mov B R S ⟨S.sizes, S.params, S.regs, ixL R S.code, S.spill, bl⟩ ∧ bl.length = S.blocks.length ∧ UnIn (fun g => base ≤ g ∧ g < wr.heap.size) wr ⟨S.sizes, S.params, S.regs, ixL R S.code, S.spill, bl⟩ A c (some ⟨gb, 0, none⟩) cb := by
  refine ⟨⟨hR, hRs, hB, hBs, rfl, rfl, rfl, rfl, rfl, h.ll, fun i hi => (h.done i hi).1⟩, h.ll, ?_, ?_, fun _ h => h.2⟩
  · exact (Row.of_own (N := fun g => base ≤ g) hz (fun _ h => h) (by decide)).mono fun _ h1 h => ⟨h1, h⟩
  · refine ⟨vs, by rw [h.vl]; exact h.ll.symm, ?_, fun j hj => ?_⟩
    · have := (Row.of_own (N := fun g => base ≤ g) h.own (fun _ h => h) (by decide)).mono (F' := fun g => base ≤ g ∧ g < wr.heap.size) fun _ h1 h => ⟨h1, h⟩
      rw [← h.ll] at this
      exact this
    · have hj' : j < S.blocks.length := by rw [← h.ll]; exact hj
      obtain ⟨i, hi, e⟩ := hB.surj hj'
      have hd := h.done i hi
      rw [e] at hd
      have eb : bl[j] = movB B R (S.blocks.getD i dBl) := by
        have := hd.1
        rw [List.getD_eq_getElem?_getD, List.getElem?_eq_getElem hj] at this
        exact this
      show Row _ wr (vs.getD j .nilFunc) (bl[j]).ops.length 7 (opsC (bl[j]).ops)
      rw [eb]
      have e2 : (movB B R (S.blocks.getD i dBl)).ops.length = (S.blocks.getD i dBl).ops.length := List.length_map ..
      rw [e2]
      exact hd.2.mono fun _ h1 h => ⟨h1.2, h⟩
end Go.Proofs.YtfkjkdoloamakaaDoor
