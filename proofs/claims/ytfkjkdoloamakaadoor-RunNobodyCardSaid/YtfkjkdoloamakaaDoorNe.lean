/- What the rows of the laws on runs list is what the walks ask: the table of forms; the door's own heap meets it. -/
import Derived.Test.YtfkjkdoloamakaaDoorRows
import Derived.Test.YtfkjkdoloamakaaDoorRf
import Derived.ProofKit
import Derived.LaidMore
import Derived.OpenShut
import Derived.Stop.Joined
import Derived.Stop.LaidErr
import Derived.Lib.LaidTab
import Derived.ShutString
namespace Go.Proofs.YtfkjkdoloamakaaDoor
open Go.ChangeShapes Go.WideShapes Go.ChangeAt Go.RowKit

theorem own : ownKnob Tryd.prog.godebug = none := by kernel_rfl
def laid1 : List (String × DataW Unit) := [("bireme/code.forms", Rows.laid_bireme_code_forms)]
/-- The door's own heap meets the condition. -/
theorem door_met (os : Os) (args : Array Value) : laidMetH Tryd.prog laid1 ((World.doorLaid Tryd.prog 39 os).forCall (fun _ _ => 0) ⟨#[], args, []⟩).memory :=
  laidMetH_of_parts3 (fuel := 8) (laidMet_of_run' 8 (by kernel_rfl) (by kernel_rfl)) (by kernel_rfl) (by kernel_rfl)

def formD {H : Type} (x : Int × Int × List UInt8) : DataW H := .agg [.lit (.int .i64 x.1), .lit (.int .i64 x.2.1), .lit (.string x.2.2)]
theorem forms_data : (Rows.laid_bireme_code_forms : DataW Unit) = .agg (formsL.map formD) := by rfl
theorem tForms : (Tryd.prog.globals[0]?).map (·.type) = some 179 := by kernel_rfl
theorem cForms : Tryd.prog.cellsOf 179 = 75 := by kernel_rfl
theorem cForm : Tryd.prog.cellsOf 160 = 3 := by kernel_rfl
theorem cInt : Tryd.prog.cellsOf 3 = 1 := by kernel_rfl
theorem cStr : Tryd.prog.cellsOf 9 = 1 := by kernel_rfl
set_option maxRecDepth 100000 in
theorem formC_of : ∀ (l : List (Int × Int × List UInt8)) (cs : List Value), cs.length = l.length * 3 → (∀ i x, l[i]? = some x → (cs.drop (i * 3)).take 3 = formC [x]) → cs = formC l
  | [], cs, hl, _ => List.eq_nil_of_length_eq_zero (by simpa using hl)
  | (u, c, n) :: l, cs, hl, h => by
    match cs, hl with
    | a :: b :: d :: cs', hl =>
      have h0 := h 0 _ rfl
      simp only [Nat.zero_mul, List.drop_zero, List.take_succ_cons, List.take_zero, formC, List.cons.injEq, and_true] at h0
      obtain ⟨rfl, rfl, rfl⟩ := h0
      have ih := formC_of l cs' (by simp at hl; omega) fun i x hx => by
        have h1 := h (i + 1) x (by simpa using hx)
        rw [show (i + 1) * 3 = i * 3 + 1 + 1 + 1 by omega] at h1
        simpa using h1
      rw [ih]; rfl
    | [], hl => simp at hl
    | [_], hl => simp at hl; omega
    | [_, _], hl => simp at hl; omega
set_option maxRecDepth 100000 in
theorem form_cells {H : Type} {enc : TypeId × Value → H} {w : World} {base : Nat} {sp : Nat → Bool} {held : Bool} {fuel : Nat} {cs : List Value} {x : Int × Int × List UInt8} {p : List MemPlace}
    (h : DataW.trod enc Tryd.prog w base sp held fuel 160 cs = some (formD x, p)) : cs = formC [x] := by
  obtain ⟨u, c, n⟩ := x
  obtain ⟨xs, m, _, hx, hl, hn, hf⟩ := DataW.trod_struct Tryd.underlying160 h
  rw [cForm] at hl
  match cs, hl with
  | [a, b, d], _ =>
    match xs, hn with
    | [x0, x1, x2], _ =>
      have f0 := hf 0 _ rfl
      have f1 := hf 1 _ rfl
      have f2 := hf 2 _ rfl
      simp [cInt, cStr] at f0 f1 f2
      simp only [formD, List.map_cons, List.map_nil, Prod.mk.injEq, DataW.agg.injEq, List.cons.injEq, and_true] at hx
      obtain ⟨⟨e0, e1, e2⟩, _⟩ := hx
      obtain ⟨u', hu, rfl, _⟩ := DataW.trod_int Tryd.underlying3 f0
      obtain ⟨c', hc, rfl, _⟩ := DataW.trod_int Tryd.underlying3 f1
      obtain ⟨s, hs, rfl, _⟩ := DataW.trod_string Tryd.underlying9 f2
      simp only [List.cons.injEq, and_true] at hu hc hs
      simp only [DataW.lit.injEq, Lit.int.injEq, Lit.string.injEq, true_and] at e0 e1 e2
      subst e0 e1 e2 hu hc hs
      rfl
set_option maxRecDepth 100000 in
theorem env_of_laid {W : World} (h : laidMetH Tryd.prog laid1 W) : Env W := by
  rw [MakeChecks.laidMetH_plain _ _ _ (by kernel_rfl)] at h
  obtain ⟨ps, ⟨g', t', cs, fuel, p, q, hg', ht', hvar, hd, _, _⟩, _⟩ := h
  obtain rfl := Option.some.inj (gForms.symm.trans hg')
  obtain rfl := Option.some.inj (tForms.symm.trans ht')
  rw [forms_data] at hd
  obtain ⟨xs, m, _, hx, hl, hn, hf⟩ := DataW.trod_array Tryd.underlying179 hd
  simp only [Prod.mk.injEq, DataW.agg.injEq] at hx
  rw [cForms] at hl
  have e : cs.toList = formC formsL := by
    refine formC_of formsL cs.toList (by rw [hl]; rfl) fun i x hi => ?_
    have hi25 : i < 25 := (List.getElem?_eq_some_iff.1 hi).1
    have h1 := hf i hi25
    rw [cForm] at h1
    have h2 : (xs.map (·.1))[i]? = some (formD x) := by rw [← hx.1, List.getElem?_map, hi]; rfl
    rw [List.getElem?_map] at h2
    cases hxi : xs[i]? with
    | none => rw [hxi] at h2; cases h2
    | some y =>
      rw [hxi] at h2 h1
      simp only [Option.map_some, Option.some.injEq] at h2
      obtain ⟨d, pp⟩ := y
      subst h2
      exact form_cells h1
  unfold Env
  rw [hvar, ← e]
theorem post_new {H : Type} {enc : TypeId × Value → H} {P : Program} {f : Func} {s : ChangeSpec} {apart fresh handsOn : Bool} {W W' : World} {args : Array Value} {v : Value} {ds gs : List (DataW H)} {pa pv : List MemPlace}
    (hW : DataW.Whole enc P f.params.toList s.vars apart W args.toList ds gs (pa ++ pv))
    (hres : ∀ (b : Nat) (sp : Nat → Bool) (hd : Bool), DataW.TrodAll enc P W' b sp hd f.resultTypes.toList (v.resultList f.resultTypes.size) (s.fn H (ds ++ gs)).results [])
    (hargs : ∀ sp : Nat → Bool, (∀ p ∈ pa ++ pv, sp p.block = true) → DataW.TrodAll enc P W' 0 sp true f.params.toList args.toList (s.fn H (ds ++ gs)).args pa)
    (hvars : ∀ sp : Nat → Bool, (∀ p ∈ pa ++ pv, sp p.block = true) → DataW.TrodVars enc P W' sp s.vars (s.fn H (ds ++ gs)).vars pv)
    (hb : Below W.heap.size W W') : s.post enc P f apart fresh handsOn false W args v W' := by
  have hold : ∀ p ∈ pa ++ pv, (fun b => decide (b < W.heap.size)) p.block = true := fun p hp => by simpa using hW.lt p hp
  exact ⟨ds, gs, pa ++ pv, [], pa, pv, hW, hres _ _ _, hargs _ hold, hvars _ hold, hb.frame _, fun h => by cases h⟩
theorem fits_of {a : Int} (h : (Lit.int .i64 a).wf = true) : -9223372036854775808 ≤ a ∧ a ≤ 9223372036854775807 := by
  simp [Lit.wf, IntKind.min, IntKind.max, IntKind.signed, IntKind.bits] at h
  omega
end Go.Proofs.YtfkjkdoloamakaaDoor
