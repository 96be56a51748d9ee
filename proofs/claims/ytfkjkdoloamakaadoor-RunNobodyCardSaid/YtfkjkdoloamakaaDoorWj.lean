/- What Do of package word leaves: for every operation and all values, in one statement. -/
import Derived.Test.YtfkjkdoloamakaaDoorWi
namespace Go.Proofs.YtfkjkdoloamakaaDoor
open Go.RowKit

/-- an operation: its kind, Dst, A, B, C, N and Guard -/
structure OpI where
  k : Int
  d : Int
  a : Int
  b : Int
  c : Int
  n : Int
  g : Int
def opV (o : OpI) : Value := .agg #[.int .i64 o.k, .int .i64 o.d, .int .i64 o.a, .int .i64 o.b, .int .i64 o.c, .int .i64 o.n, .int .i64 o.g]
/-- whether Do knows a kind -/
def known (k : Int) : Bool := decide (k = 1 ∨ k = 2 ∨ k = 12) || two2 k
def fm3 (a b c : Int × Int) : Bool := fm a && (fm b && fm c)
def doV0 (k n : Int) (a b c : Int × Int) : Int × Int :=
  if k = 1 then (n, 0) else if k = 2 then a else if k = 12 then (if a.2 ≠ 0 then a else if a.1 ≠ 0 then b else c) else bothV k a b
def doT0 (k : Int) (a b : Int × Int) : Int := if k = 1 ∨ k = 2 ∨ k = 12 then 0 else bothT k a b
/-- Do's answers -/
def doV (k n : Int) (a b c : Int × Int) : Int × Int := if known k = true ∧ fm3 a b c = true then doV0 k n a b c else (0, 0)
def doT (k : Int) (a b c : Int × Int) : Int := if known k = true ∧ fm3 a b c = true then doT0 k a b else 0
def doE (k : Int) (a b c : Int × Int) : Int := if known k = true then (if fm3 a b c = true then 0 else 4) else 2

theorem do_ret {v v' : Int × Int} {t t' e e' : Int} (h1 : v = v') (h2 : t = t') (h3 : e = e') {w : World} {f : Nat} {args : Array Value}
    (h : Calls Tryd.prog f args w fun x w' => x = .returned (.tuple #[vl v', .int .i64 t', .int .i64 e']) ∧ Below w.heap.size w w') :
    Calls Tryd.prog f args w fun x w' => x = .returned (.tuple #[vl v, .int .i64 t, .int .i64 e]) ∧ Below w.heap.size w w' := by
  rw [h1, h2, h3]; exact h

set_option maxHeartbeats 1000000 in
theorem do_any (o : OpI) (a b c : Int × Int) (w : World) :
    Calls Tryd.prog 100 #[opV o, vl a, vl b, vl c] w fun e w' => e = .returned (.tuple #[vl (doV o.k o.n a b c), .int .i64 (doT o.k a b c), .int .i64 (doE o.k a b c)]) ∧ Below w.heap.size w w' := by
  obtain ⟨k, d, A, B, C, n, g⟩ := o
  obtain ⟨x, p⟩ := a
  obtain ⟨y, q⟩ := b
  obtain ⟨z, r⟩ := c
  show Calls Tryd.prog 100 #[opV ⟨k, d, A, B, C, n, g⟩, vl (x, p), vl (y, q), vl (z, r)] w fun e w' => e = .returned (.tuple #[vl (doV k n (x, p) (y, q) (z, r)), .int .i64 (doT k (x, p) (y, q) (z, r)), .int .i64 (doE k (x, p) (y, q) (z, r))]) ∧ Below w.heap.size w w'
  by_cases hk : known k = true
  · by_cases hf : fm3 (x, p) (y, q) (z, r) = true
    · have hE : doE k (x, p) (y, q) (z, r) = 0 := by simp [doE, hk, hf]
      have hT : doT k (x, p) (y, q) (z, r) = doT0 k (x, p) (y, q) := by simp [doT, hk, hf]
      have hV : doV k n (x, p) (y, q) (z, r) = doV0 k n (x, p) (y, q) (z, r) := by simp [doV, hk, hf]
      rw [hE, hT, hV]
      simp only [fm3, Bool.and_eq_true] at hf
      obtain ⟨f1, f2, f3⟩ := hf
      by_cases h1 : k = 1
      · subst h1
        exact do_ret rfl rfl rfl (do_const d A B C n g x p y q z r f1 f2 f3 w)
      by_cases h2 : k = 2
      · subst h2
        exact do_ret rfl rfl rfl (do_move d A B C n g x p y q z r f1 f2 f3 w)
      by_cases h12 : k = 12
      · subst h12
        by_cases hp : p = 0
        · subst hp
          by_cases hx : x = 0
          · subst hx
            exact do_ret rfl rfl rfl (do_pick_no d A B C n g y q z r f1 f2 f3 w)
          · exact do_ret (v' := (y, q)) (by simp [doV0, hx]) rfl rfl (do_pick_yes d A B C n g x y q z r hx f1 f2 f3 w)
        · exact do_ret (v' := (x, p)) (by simp [doV0, hp]) rfl rfl (do_pick_bad d A B C n g x p y q z r hp f1 f2 f3 w)
      have h2k : two2 k = true := by simpa [known, h1, h2, h12] using hk
      have e1 : doV0 k n (x, p) (y, q) (z, r) = bothV k (x, p) (y, q) := by simp [doV0, h1, h2, h12]
      have e2 : doT0 k (x, p) (y, q) = bothT k (x, p) (y, q) := by simp [doT0, h1, h2, h12]
      rw [e1, e2]
      exact do_both k _ _ d A B C n g x p y q z r rfl rfl h2k h1 h2 h12 _ _ _ h2k rfl rfl f1 f2 f3 w
    · have hf' : fm3 (x, p) (y, q) (z, r) = false := by simpa using hf
      have hE : doE k (x, p) (y, q) (z, r) = 4 := by simp [doE, hk, hf']
      have hT : doT k (x, p) (y, q) (z, r) = 0 := by simp [doT, hf']
      have hV : doV k n (x, p) (y, q) (z, r) = (0, 0) := by simp [doV, hf']
      rw [hE, hT, hV]
      clear hE hT hV
      have hc : fm (x, p) = false ∨ (fm (x, p) = true ∧ fm (y, q) = false) ∨ (fm (x, p) = true ∧ fm (y, q) = true ∧ fm (z, r) = false) := by
        simp only [fm3] at hf'
        cases h1 : fm (x, p) <;> cases h2 : fm (y, q) <;> cases h3 : fm (z, r) <;> simp_all
      by_cases h1 : k = 1
      · subst h1
        rcases hc with f1 | ⟨f1, f2⟩ | ⟨f1, f2, f3⟩
        · exact do_form_0_k1 d A B C n g x p y q z r f1 w
        · exact do_form_1_k1 d A B C n g x p y q z r f1 f2 w
        · exact do_form_2_k1 d A B C n g x p y q z r f1 f2 f3 w
      by_cases h2 : k = 2
      · subst h2
        rcases hc with f1 | ⟨f1, f2⟩ | ⟨f1, f2, f3⟩
        · exact do_form_0_k2 d A B C n g x p y q z r f1 w
        · exact do_form_1_k2 d A B C n g x p y q z r f1 f2 w
        · exact do_form_2_k2 d A B C n g x p y q z r f1 f2 f3 w
      by_cases h12 : k = 12
      · subst h12
        rcases hc with f1 | ⟨f1, f2⟩ | ⟨f1, f2, f3⟩
        · exact do_form_0_k12 d A B C n g x p y q z r f1 w
        · exact do_form_1_k12 d A B C n g x p y q z r f1 f2 w
        · exact do_form_2_k12 d A B C n g x p y q z r f1 f2 f3 w
      have h2k : two2 k = true := by simpa [known, h1, h2, h12] using hk
      rcases hc with f1 | ⟨f1, f2⟩ | ⟨f1, f2, f3⟩
      · exact do_form_0 k _ _ d A B C n g x p y q z r rfl rfl h2k h1 h2 h12 f1 w
      · exact do_form_1 k _ _ d A B C n g x p y q z r rfl rfl h2k h1 h2 h12 f1 f2 w
      · exact do_form_2 k _ _ d A B C n g x p y q z r rfl rfl h2k h1 h2 h12 f1 f2 f3 w
  · have hk' : known k = false := by simpa using hk
    have hE : doE k (x, p) (y, q) (z, r) = 2 := by simp [doE, hk']
    have hT : doT k (x, p) (y, q) (z, r) = 0 := by simp [doT, hk']
    have hV : doV k n (x, p) (y, q) (z, r) = (0, 0) := by simp [doV, hk']
    rw [hE, hT, hV]
    simp only [known, Bool.or_eq_false_iff, decide_eq_false_iff_not] at hk'
    obtain ⟨h0, h2k⟩ := hk'
    exact do_none k _ _ d A B C n g x p y q z r rfl rfl h2k (by omega) (by omega) (by omega) w
end Go.Proofs.YtfkjkdoloamakaaDoor
