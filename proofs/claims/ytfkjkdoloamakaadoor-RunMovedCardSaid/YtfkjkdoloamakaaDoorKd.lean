/- RunProfile: what its callees answer, for the unit that it has made small. -/
import Derived.Test.YtfkjkdoloamakaaDoorMh
import Derived.Test.YtfkjkdoloamakaaDoorKc
import Derived.Test.YtfkjkdoloamakaaDoorKe
import Derived.Test.YtfkjkdoloamakaaDoorKf
namespace Go.Proofs.YtfkjkdoloamakaaDoor
open Go.RowKit
set_option linter.unusedVariables false
set_option linter.unusedSimpArgs false
variable {w : World} {F F2 F3 : Nat → Prop} {U : UnS} {Av Ab : Option Addr} {cv cb : Nat}

theorem endTo_yes (k : Int) (h : k = 1 ∨ k = 2) (w : World) : Calls Tryd.prog 28 #[.int .i64 k] w fun x w' => x = .returned (.bool true) ∧ w = w' := by
  rcases h with rfl | rfl
  all_goals
    go_enter Tryd.func28, Tryd.ntmps28
    go_wp2
    go_ret
    exact ⟨rfl, rfl⟩
theorem endTo_no (k : Int) (h : ¬ (k = 1 ∨ k = 2)) (w : World) : Calls Tryd.prog 28 #[.int .i64 k] w fun x w' => x = .returned (.bool false) ∧ w = w' := by
  have h1 : (k == 1) = false := by simp; omega
  have h2 : (k == 2) = false := by simp; omega
  clear h
  go_enter Tryd.func28, Tryd.ntmps28
  go_wp2
  go_ret
  exact ⟨rfl, rfl⟩
theorem endElse_yes (k : Int) (h : k = 2) (w : World) : Calls Tryd.prog 29 #[.int .i64 k] w fun x w' => x = .returned (.bool true) ∧ w = w' := by
  subst h
  go_enter Tryd.func29, Tryd.ntmps29
  go_wp2
  go_ret
  exact ⟨rfl, rfl⟩
theorem endElse_no (k : Int) (h : ¬ k = 2) (w : World) : Calls Tryd.prog 29 #[.int .i64 k] w fun x w' => x = .returned (.bool false) ∧ w = w' := by
  have h2 : (k == 2) = false := by simp; omega
  clear h
  go_enter Tryd.func29, Tryd.ntmps29
  go_wp2
  go_ret
  exact ⟨rfl, rfl⟩

theorem make_int (n : Nat) (h1 : n ≤ 100000) (W : World) : (Instr.makeSlice 22 (.int .i64 (n : Int)) (.int .i64 (n : Int))).run Tryd.prog W = .ok (.slice (some ⟨W.heap.size, 0, none⟩) n n) (W.alloc (.cells (numV (List.replicate n 0)).toArray 3)) := by
  obtain ⟨i0, hi, hz0, hz1, hz2⟩ := info_parts inf_int
  have hr := run_make (P := Tryd.prog) W 22 3 i0 _ Tryd.underlying22 hi hz0 .i64 .i64 n n (by omega) (Int.le_refl _) (by rw [hz2]; omega) (by omega)
  rw [hr, hz1, Nat.mul_one, Int.toNat_natCast]
  exact congrArg (fun x => Result.ok (Value.slice (some ⟨W.heap.size, 0, none⟩) n n) (W.alloc (.cells x 3))) ((made_zero _ zero1 _).trans (by simp [numV]))

theorem op_kind_at {n : Nat} {ops : List OpI} {A : Option Addr} {c : Nat} (h : Row F w (.slice A n c) n 7 (opsC ops)) (hl : n = ops.length) {k : Nat} (hk : k < n) : ∃ g o, A = some ⟨g, o, none⟩ ∧ F g ∧ w.cell? ⟨g, o + k * 7, none⟩ = some (.int .i64 (ops.getD k dOp).k) := by
  obtain ⟨_, A', c', e, _, _, hh⟩ := h
  injection e with e1 _ e2
  subst e1 e2
  obtain ⟨g, o, e3, hF, _, hc⟩ := hh (by omega)
  exact ⟨g, o, e3, hF, hc (k * 7) _ ((opsC_at ops k (by omega) 0 (by omega)).trans rfl)⟩
theorem Env.fr0 {w' : World} (h : Env w) (hf : Fr (fun _ => False) w w') : Env w' := h.fr hf not_false
/-- what is known before Profile and Way are asked, for the unit S and the list of arguments -/
structure Asked (W : World) (S : UnS) (A : Option Addr) (c : Nat) (A2 : Option Addr) (c2 : Nat) (args : List Int) (Aa : Option Addr) (ca : Nat) : Prop where
  un : UnIn (fun g => g < W.heap.size) W S A c A2 c2
  env : Env W
  row : Row (fun g => g < W.heap.size) W (.slice Aa args.length ca) args.length 1 (numV args)
  al : args.length ≤ maxLen
  z1 : S.sizes.length ≤ 17
  z2 : S.blocks.length ≤ 200
  z3 : opsN S.blocks ≤ 4000
variable {W : World} {S : UnS} {A A2 Aa : Option Addr} {c c2 ca : Nat} {args : List Int}
theorem Asked.fr (h : Asked W S A c A2 c2 args Aa ca) {W' : World} (hf : Fr (fun _ => False) W W') : Asked W' S A c A2 c2 args Aa ca :=
  ⟨(h.un.fr hf fun _ _ => not_false).all, h.env.fr0 hf, (h.row.fr hf fun _ _ => not_false).mono fun _ _ h => h, h.al, h.z1, h.z2, h.z3⟩
theorem numV_cell (l : List Int) (i : Nat) (h : i < l.length) : (numV l).toArray[i]? = some (.int .i64 (l.getD i 0)) := by
  rw [List.getElem?_toArray, numV, List.getElem?_map, List.getElem?_eq_getElem h, List.getD_eq_getElem?_getD, List.getElem?_eq_getElem h]
  rfl
theorem Asked.copy (h : Asked W S A c A2 c2 args Aa ca) {w' : World} (hf : Fr (fun _ => False) W w') :
    Calls Tryd.prog 13 #[unV S A c A2 c2] w' fun x w'' => ∃ A' c' A2' c2', x = .returned (unV S A' c' A2' c2') ∧ UnIn (fun g => g < w''.heap.size) w'' S A' c' A2' c2' ∧ Fr (fun _ => False) W w'' ∧ Fr (fun _ => False) w' w'' :=
  (copy_any (h.un.fr hf fun _ _ => not_false) h.z1 h.z2 h.z3).mono fun x w'' ⟨A', c', A2', c2', e, hu, hb⟩ => ⟨A', c', A2', c2', e, hu.all, hf.then_ (Fr.of_below hb), Fr.of_below hb⟩
theorem Asked.own (h : Asked W S A c A2 c2 args Aa ca) {l : List Int} (hl : ownL args (ownN S) = l) (hn : ownN S = l.length) {w' : World} (hf : Fr (fun _ => False) W w') :
    Calls Tryd.prog 20 #[unV S A c A2 c2, .slice Aa args.length ca] w' fun x w'' => ∃ A3 c3, x = .returned (.slice A3 l.length c3) ∧ Row (fun g => g < w''.heap.size) w'' (.slice A3 l.length c3) l.length 1 (numV l) ∧ Fr (fun _ => False) W w'' ∧ Fr (fun _ => False) w' w'' := by
  refine (own_any (U := S) (Av := A) (cv := c) (Ab := A2) (cb := c2) args Aa ca (h.row.fr hf fun _ _ => not_false) h.al).mono ?_
  rintro x w'' ⟨v, e, hv, hb⟩
  rw [hl, hn] at hv
  obtain ⟨A3, c3, rfl⟩ := own_shape hv
  exact ⟨A3, c3, e, (Row.of_own (N := fun g => True) hv (fun _ _ => trivial) (by decide)).mono fun _ _ h => h, hf.then_ (Fr.of_below hb), Fr.of_below hb⟩
theorem Asked.ck (h : Asked W S A c A2 c2 args Aa ca) {w' : World} {A' A2' : Option Addr} {c' c2' : Nat} (hu : UnIn (fun g => g < w'.heap.size) w' S A' c' A2' c2') (hf : Fr (fun _ => False) W w') : CkSays w' S A' c' A2' c2' (unErr S) := by
  obtain ⟨y1, y2⟩ := lens_of h.z1 h.z2 h.z3
  exact ck_any hu (h.env.fr0 hf) y1 y2
theorem err_of {e : Int} (h : e ≠ 0) (U : UnS) (n : Nat) (s : Int) : errOf e U n s = e := if_pos h
theorem Asked.profBad (h : Asked W S A c A2 c2 args Aa ca) (hE : unErr S ≠ 0) {l : List Int} (hl : l.length ≤ 4294967296) (r : Int) {w' wa : World} {A' A2' A3 : Option Addr} {c' c2' c3 : Nat} (hu0 : UnIn (fun g => g < wa.heap.size) wa S A' c' A2' c2') (hua : Fr (fun _ => False) wa w') (hf : Fr (fun _ => False) W w') :
    Calls Tryd.prog 24 #[unV S A' c' A2' c2', .slice A3 l.length c3, .int .i64 r] w' fun x w'' => x = .returned (.tuple #[.slice none 0 0, .int .i64 (unErr S)]) ∧ Fr (fun _ => False) W w'' := by
  have hu := (hu0.fr hua fun _ _ => not_false).all
  refine (prof_bad (h.ck hu hf) l A3 c3 hl r (by rw [err_of hE]; exact hE)).mono ?_
  rintro x w'' ⟨e, hb⟩
  rw [err_of hE] at e
  exact ⟨e, hf.then_ (Fr.of_below hb)⟩
theorem Asked.wayBad (h : Asked W S A c A2 c2 args Aa ca) (hE : unErr S ≠ 0) {l : List Int} (hl : l.length ≤ 4294967296) (r : Int) {w' wa : World} {A' A2' A3 : Option Addr} {c' c2' c3 : Nat} (hu0 : UnIn (fun g => g < wa.heap.size) wa S A' c' A2' c2') (hua : Fr (fun _ => False) wa w') (hf : Fr (fun _ => False) W w') :
    Calls Tryd.prog 25 #[unV S A' c' A2' c2', .slice A3 l.length c3, .int .i64 r] w' fun x w'' => x = .returned (.tuple #[.slice none 0 0, .int .i64 (unErr S)]) ∧ Fr (fun _ => False) W w'' := by
  have hu := (hu0.fr hua fun _ _ => not_false).all
  refine (way_bad (h.ck hu hf) l A3 c3 hl r (by rw [err_of hE]; exact hE)).mono ?_
  rintro x w'' ⟨e, hb⟩
  rw [err_of hE] at e
  exact ⟨e, hf.then_ (Fr.of_below hb)⟩
theorem Asked.prof (h : Asked W S A c A2 c2 args Aa ca) (hE : unErr S = 0) {l : List Int} (hl : (l.length : Int) = S.params) (r : Int) (h0 : 0 ≤ r) (h1 : r ≤ 4194304) {sF : St} (hs : St.run S r.toNat (St.init S l) = sF) {n : Nat} (hn : sF.seen.length = n) {w' wa wb : World} {A' A2' A3 : Option Addr} {c' c2' c3 : Nat} (hu0 : UnIn (fun g => g < wa.heap.size) wa S A' c' A2' c2') (hua : Fr (fun _ => False) wa w') (hr0 : Row (fun g => g < wb.heap.size) wb (.slice A3 l.length c3) l.length 1 (numV l)) (hrb : Fr (fun _ => False) wb w') (hf : Fr (fun _ => False) W w') :
    Calls Tryd.prog 24 #[unV S A' c' A2' c2', .slice A3 l.length c3, .int .i64 r] w' fun x w'' => ∃ g, x = .returned (.tuple #[.slice (some ⟨g, 0, none⟩) n n, .int .i64 0]) ∧ Blk w'' g 68 (cntC sF.seen).toArray ∧ Fr (fun _ => False) W w'' := by
  have hu := (hu0.fr hua fun _ _ => not_false).all
  have hr := hr0.fr hrb fun _ _ => not_false
  have hc := h.ck hu hf
  rw [hE] at hc
  refine (prof_ok hc (fine_good (un_zero hE)) (h.env.fr0 hf) hu l A3 c3 hr hl r h0 h1).mono ?_
  rintro x w'' ⟨g, n', e1, e2, hb, hb2⟩
  rw [hs] at e1 hb
  subst hn
  subst e1
  exact ⟨g, e2, hb, hf.then_ (Fr.of_below hb2)⟩
theorem Asked.way (h : Asked W S A c A2 c2 args Aa ca) (hE : unErr S = 0) {l : List Int} (hl : (l.length : Int) = S.params) (r : Int) (h0 : 0 ≤ r) (h1 : r ≤ 4194304) {sF : St} (hs : St.run S r.toNat (St.init S l) = sF) {n : Nat} (hn : sF.ways.length = n) {w' wa wb : World} {A' A2' A3 : Option Addr} {c' c2' c3 : Nat} (hu0 : UnIn (fun g => g < wa.heap.size) wa S A' c' A2' c2') (hua : Fr (fun _ => False) wa w') (hr0 : Row (fun g => g < wb.heap.size) wb (.slice A3 l.length c3) l.length 1 (numV l)) (hrb : Fr (fun _ => False) wb w') (hf : Fr (fun _ => False) W w') :
    Calls Tryd.prog 25 #[unV S A' c' A2' c2', .slice A3 l.length c3, .int .i64 r] w' fun x w'' => ∃ A5 c5, x = .returned (.tuple #[.slice A5 n c5, .int .i64 0]) ∧ Row (fun g => g < w''.heap.size) w'' (.slice A5 n c5) n 1 (numV sF.ways) ∧ Fr (fun _ => False) W w'' := by
  have hu := (hu0.fr hua fun _ _ => not_false).all
  have hr := hr0.fr hrb fun _ _ => not_false
  have hc := h.ck hu hf
  rw [hE] at hc
  refine (way_ok hc (fine_good (un_zero hE)) (h.env.fr0 hf) hu l A3 c3 hr hl r h0 h1).mono ?_
  rintro x w'' ⟨v, e2, ho, hb2⟩
  rw [hs, hn] at ho
  obtain ⟨A5, c5, rfl⟩ := own_shape ho
  exact ⟨A5, c5, e2, (Row.of_own (N := fun g => True) ho (fun _ _ => trivial) (by decide)).mono fun _ _ h => h, hf.then_ (Fr.of_below hb2)⟩
end Go.Proofs.YtfkjkdoloamakaaDoor
