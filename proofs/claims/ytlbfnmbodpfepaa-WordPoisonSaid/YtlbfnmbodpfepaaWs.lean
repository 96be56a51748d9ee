/- Arguments that are structs of whole numbers, opened: an operation (seven numbers), three values (six numbers). -/
import Derived.Test.YtlbfnmbodpfepaaWp
namespace Go.Proofs.Ytlbfnmbodpfepaa
open Go.ChangeShapes Go.WideShapes Go.ChangeAt Go.RowKit

theorem trod_i64 {H : Type} {enc : TypeId × Value → H} {w : World} {base : Nat} {spare : Nat → Bool} {held : Bool} {fuel : Nat} {t : TypeId} {c : Value} {x : Option (DataW H × List MemPlace)}
    (ht : Try.prog.underlying t = some (.int .i64)) (h : DataW.trod enc Try.prog w base spare held fuel t [c] = x) (hx : x.isSome = true) : ∃ n, c = .int .i64 n := by
  obtain ⟨y, rfl⟩ := Option.isSome_iff_exists.1 hx
  obtain ⟨n, h1, _, _⟩ := DataW.trod_int ht h
  exact ⟨n, by simpa using h1⟩

theorem open_op {H : Type} {enc : TypeId × Value → H} {W : World} {base0 base : Nat} {spare : Nat → Bool} {held : Bool} {v : Value} {d : DataW H} {p : List MemPlace}
    (hv : Value.okWide Try.prog W .any base0 30 v) (h : DataW.Trod enc Try.prog W base spare held 30 v d p) :
    ∃ k dd a b c n g : Int, v = .agg #[.int .i64 k, .int .i64 dd, .int .i64 a, .int .i64 b, .int .i64 c, .int .i64 n, .int .i64 g] := by
  obtain ⟨cs, rfl, _⟩ := okWide_struct Try.underlying30 hv
  obtain ⟨fuel, hf⟩ := h
  obtain ⟨xs, n, _, _, hl, hx, hfs⟩ := DataW.trod_struct Try.underlying30 hf
  obtain ⟨l⟩ := cs
  match l, hl with
  | [c0, c1, c2, c3, c4, c5, c6], _ =>
    have g0 := hfs 0 _ rfl
    have g1 := hfs 1 _ rfl
    have g2 := hfs 2 _ rfl
    have g3 := hfs 3 _ rfl
    have g4 := hfs 4 _ rfl
    have g5 := hfs 5 _ rfl
    have g6 := hfs 6 _ rfl
    have hs : ∀ i, i < 7 → (xs[i]?).isSome = true := fun i hi => by simp at hx; simp [hx, hi]
    obtain ⟨n0, rfl⟩ := trod_i64 Try.underlying3 g0 (hs 0 (by omega))
    obtain ⟨n1, rfl⟩ := trod_i64 Try.underlying3 g1 (hs 1 (by omega))
    obtain ⟨n2, rfl⟩ := trod_i64 Try.underlying3 g2 (hs 2 (by omega))
    obtain ⟨n3, rfl⟩ := trod_i64 Try.underlying3 g3 (hs 3 (by omega))
    obtain ⟨n4, rfl⟩ := trod_i64 Try.underlying3 g4 (hs 4 (by omega))
    obtain ⟨n5, rfl⟩ := trod_i64 Try.underlying2 g5 (hs 5 (by omega))
    obtain ⟨n6, rfl⟩ := trod_i64 Try.underlying3 g6 (hs 6 (by omega))
    exact ⟨n0, n1, n2, n3, n4, n5, n6, rfl⟩
theorem open_val {H : Type} {enc : TypeId × Value → H} {w : World} {base : Nat} {spare : Nat → Bool} {held : Bool} {fuel : Nat} {c0 c1 : Value} {x : Option (DataW H × List MemPlace)}
    (h : DataW.trod enc Try.prog w base spare held fuel 32 [c0, c1] = x) (hx : x.isSome = true) : ∃ n m, c0 = .int .i64 n ∧ c1 = .int .i64 m := by
  obtain ⟨y, rfl⟩ := Option.isSome_iff_exists.1 hx
  obtain ⟨xs, n, _, _, _, hx, hfs⟩ := DataW.trod_struct Try.underlying32 h
  have g0 := hfs 0 _ rfl
  have g1 := hfs 1 _ rfl
  have hs : ∀ i, i < 2 → (xs[i]?).isSome = true := fun i hi => by simp at hx; simp [hx, hi]
  obtain ⟨n0, rfl⟩ := trod_i64 Try.underlying2 g0 (hs 0 (by omega))
  obtain ⟨n1, rfl⟩ := trod_i64 Try.underlying2 g1 (hs 1 (by omega))
  exact ⟨n0, n1, rfl, rfl⟩
theorem open_three {H : Type} {enc : TypeId × Value → H} {W : World} {base0 base : Nat} {spare : Nat → Bool} {held : Bool} {v : Value} {d : DataW H} {p : List MemPlace}
    (hv : Value.okWide Try.prog W .any base0 34 v) (h : DataW.Trod enc Try.prog W base spare held 34 v d p) :
    ∃ x p y q z r : Int, v = .agg #[.int .i64 x, .int .i64 p, .int .i64 y, .int .i64 q, .int .i64 z, .int .i64 r] := by
  obtain ⟨cs, rfl, _⟩ := okWide_struct Try.underlying34 hv
  obtain ⟨fuel, hf⟩ := h
  obtain ⟨xs, n, _, _, hl, hx, hfs⟩ := DataW.trod_struct Try.underlying34 hf
  obtain ⟨l⟩ := cs
  match l, hl with
  | [c0, c1, c2, c3, c4, c5], _ =>
    have g0 := hfs 0 _ rfl
    have g1 := hfs 1 _ rfl
    have g2 := hfs 2 _ rfl
    have hs : ∀ i, i < 3 → (xs[i]?).isSome = true := fun i hi => by simp at hx; simp [hx, hi]
    obtain ⟨n0, n1, rfl, rfl⟩ := open_val g0 (hs 0 (by omega))
    obtain ⟨n2, n3, rfl, rfl⟩ := open_val g1 (hs 1 (by omega))
    obtain ⟨n4, n5, rfl, rfl⟩ := open_val g2 (hs 2 (by omega))
    exact ⟨n0, n1, n2, n3, n4, n5, rfl⟩
theorem post_held {H : Type} {enc : TypeId × Value → H} {P : Program} {f : Func} {s : ChangeSpec} {apart fresh handsOn : Bool} {W W' : World} {args : Array Value} {v : Value} {ds gs : List (DataW H)} {pa pv : List MemPlace}
    (hW : DataW.Whole enc P f.params.toList s.vars apart W args.toList ds gs (pa ++ pv))
    (hres : ∀ (b : Nat) (sp : Nat → Bool) (hd : Bool), DataW.TrodAll enc P W' b sp hd f.resultTypes.toList (v.resultList f.resultTypes.size) (s.fn H (ds ++ gs)).results [])
    (hargs : DataW.TrodAll enc P W' 0 (fun b => decide (b < W.heap.size)) true f.params.toList args.toList (s.fn H (ds ++ gs)).args pa)
    (hvars : DataW.TrodVars enc P W' (fun b => decide (b < W.heap.size)) s.vars (s.fn H (ds ++ gs)).vars pv)
    (hb : Below W.heap.size W W') : s.post enc P f apart fresh handsOn false W args v W' :=
  ⟨ds, gs, pa ++ pv, [], pa, pv, hW, hres _ _ _, hargs, hvars, hb.frame _, fun h => by cases h⟩
theorem laidOut : laidOutB Try.prog = true := by kernel_rfl
end Go.Proofs.Ytlbfnmbodpfepaa
