import Derived.Test.YtfkjkdoloamakaaDoorWi
import Derived.Test.YtfkjkdoloamakaaDoorMa
import Derived.WalkKit
import Derived.WalkSpells
import Derived.WalkLawsBesides
import Derived.Handy
import Derived.BigQuiet
import Derived.Deep.QuietTactic
import Derived.Deep.RegionWith
import Derived.Deep.RegionHeld3
import Derived.StillTailTactics
import Derived.OwnWalk
import Derived.Lib.Hide
import Derived.Maps.AppendAt
import Derived.LoopTactic
/- What Do of package word leaves: for every operation and all values, in one statement. -/
namespace Go.Proofs.YtfkjkdoloamakaaDoor
open Go.RowKit

/-- an operation: its kind, Dst, A, B, C, N and Guard -/
structure OpI where
  k : Int
  d : Int
  a : Int
  b : Int
  c : Int
  n : Int
  g : Int
def opV (o : OpI) : Value := .agg #[.int .i64 o.k, .int .i64 o.d, .int .i64 o.a, .int .i64 o.b, .int .i64 o.c, .int .i64 o.n, .int .i64 o.g]
/-- whether Do knows a kind -/
def known (k : Int) : Bool := decide (k = 1 ∨ k = 2 ∨ k = 12) || two2 k
def fm3 (a b c : Int × Int) : Bool := fm a && (fm b && fm c)
def doV0 (k n : Int) (a b c : Int × Int) : Int × Int :=
  if k = 1 then (n, 0) else if k = 2 then a else if k = 12 then (if a.2 ≠ 0 then a else if a.1 ≠ 0 then b else c) else bothV k a b
def doT0 (k : Int) (a b : Int × Int) : Int := if k = 1 ∨ k = 2 ∨ k = 12 then 0 else bothT k a b
/-- Do's answers -/
def doV (k n : Int) (a b c : Int × Int) : Int × Int := if known k = true ∧ fm3 a b c = true then doV0 k n a b c else (0, 0)
def doT (k : Int) (a b c : Int × Int) : Int := if known k = true ∧ fm3 a b c = true then doT0 k a b else 0
def doE (k : Int) (a b c : Int × Int) : Int := if known k = true then (if fm3 a b c = true then 0 else 4) else 2

theorem do_ret {v v' : Int × Int} {t t' e e' : Int} (h1 : v = v') (h2 : t = t') (h3 : e = e') {w : World} {f : Nat} {args : Array Value}
    (h : Calls Tryd.prog f args w fun x w' => x = .returned (.tuple #[vl v', .int .i64 t', .int .i64 e']) ∧ Below w.heap.size w w') :
    Calls Tryd.prog f args w fun x w' => x = .returned (.tuple #[vl v, .int .i64 t, .int .i64 e]) ∧ Below w.heap.size w w' := by
  rw [h1, h2, h3]; exact h

set_option maxHeartbeats 1000000 in
theorem do_any (o : OpI) (a b c : Int × Int) (w : World) :
    Calls Tryd.prog 100 #[opV o, vl a, vl b, vl c] w fun e w' => e = .returned (.tuple #[vl (doV o.k o.n a b c), .int .i64 (doT o.k a b c), .int .i64 (doE o.k a b c)]) ∧ Below w.heap.size w w' := by
  obtain ⟨k, d, A, B, C, n, g⟩ := o
  obtain ⟨x, p⟩ := a
  obtain ⟨y, q⟩ := b
  obtain ⟨z, r⟩ := c
  show Calls Tryd.prog 100 #[opV ⟨k, d, A, B, C, n, g⟩, vl (x, p), vl (y, q), vl (z, r)] w fun e w' => e = .returned (.tuple #[vl (doV k n (x, p) (y, q) (z, r)), .int .i64 (doT k (x, p) (y, q) (z, r)), .int .i64 (doE k (x, p) (y, q) (z, r))]) ∧ Below w.heap.size w w'
  by_cases hk : known k = true
  · by_cases hf : fm3 (x, p) (y, q) (z, r) = true
    · have hE : doE k (x, p) (y, q) (z, r) = 0 := by simp [doE, hk, hf]
      have hT : doT k (x, p) (y, q) (z, r) = doT0 k (x, p) (y, q) := by simp [doT, hk, hf]
      have hV : doV k n (x, p) (y, q) (z, r) = doV0 k n (x, p) (y, q) (z, r) := by simp [doV, hk, hf]
      rw [hE, hT, hV]
      simp only [fm3, Bool.and_eq_true] at hf
      obtain ⟨f1, f2, f3⟩ := hf
      by_cases h1 : k = 1
      · subst h1
        exact do_ret rfl rfl rfl (do_const d A B C n g x p y q z r f1 f2 f3 w)
      by_cases h2 : k = 2
      · subst h2
        exact do_ret rfl rfl rfl (do_move d A B C n g x p y q z r f1 f2 f3 w)
      by_cases h12 : k = 12
      · subst h12
        by_cases hp : p = 0
        · subst hp
          by_cases hx : x = 0
          · subst hx
            exact do_ret rfl rfl rfl (do_pick_no d A B C n g y q z r f1 f2 f3 w)
          · exact do_ret (v' := (y, q)) (by simp [doV0, hx]) rfl rfl (do_pick_yes d A B C n g x y q z r hx f1 f2 f3 w)
        · exact do_ret (v' := (x, p)) (by simp [doV0, hp]) rfl rfl (do_pick_bad d A B C n g x p y q z r hp f1 f2 f3 w)
      have h2k : two2 k = true := by simpa [known, h1, h2, h12] using hk
      have e1 : doV0 k n (x, p) (y, q) (z, r) = bothV k (x, p) (y, q) := by simp [doV0, h1, h2, h12]
      have e2 : doT0 k (x, p) (y, q) = bothT k (x, p) (y, q) := by simp [doT0, h1, h2, h12]
      rw [e1, e2]
      exact do_both k _ _ d A B C n g x p y q z r rfl rfl h2k h1 h2 h12 _ _ _ h2k rfl rfl f1 f2 f3 w
    · have hf' : fm3 (x, p) (y, q) (z, r) = false := by simpa using hf
      have hE : doE k (x, p) (y, q) (z, r) = 4 := by simp [doE, hk, hf']
      have hT : doT k (x, p) (y, q) (z, r) = 0 := by simp [doT, hf']
      have hV : doV k n (x, p) (y, q) (z, r) = (0, 0) := by simp [doV, hf']
      rw [hE, hT, hV]
      clear hE hT hV
      have hc : fm (x, p) = false ∨ (fm (x, p) = true ∧ fm (y, q) = false) ∨ (fm (x, p) = true ∧ fm (y, q) = true ∧ fm (z, r) = false) := by
        simp only [fm3] at hf'
        cases h1 : fm (x, p) <;> cases h2 : fm (y, q) <;> cases h3 : fm (z, r) <;> simp_all
      by_cases h1 : k = 1
      · subst h1
        rcases hc with f1 | ⟨f1, f2⟩ | ⟨f1, f2, f3⟩
        · exact do_form_0_k1 d A B C n g x p y q z r f1 w
        · exact do_form_1_k1 d A B C n g x p y q z r f1 f2 w
        · exact do_form_2_k1 d A B C n g x p y q z r f1 f2 f3 w
      by_cases h2 : k = 2
      · subst h2
        rcases hc with f1 | ⟨f1, f2⟩ | ⟨f1, f2, f3⟩
        · exact do_form_0_k2 d A B C n g x p y q z r f1 w
        · exact do_form_1_k2 d A B C n g x p y q z r f1 f2 w
        · exact do_form_2_k2 d A B C n g x p y q z r f1 f2 f3 w
      by_cases h12 : k = 12
      · subst h12
        rcases hc with f1 | ⟨f1, f2⟩ | ⟨f1, f2, f3⟩
        · exact do_form_0_k12 d A B C n g x p y q z r f1 w
        · exact do_form_1_k12 d A B C n g x p y q z r f1 f2 w
        · exact do_form_2_k12 d A B C n g x p y q z r f1 f2 f3 w
      have h2k : two2 k = true := by simpa [known, h1, h2, h12] using hk
      rcases hc with f1 | ⟨f1, f2⟩ | ⟨f1, f2, f3⟩
      · exact do_form_0 k _ _ d A B C n g x p y q z r rfl rfl h2k h1 h2 h12 f1 w
      · exact do_form_1 k _ _ d A B C n g x p y q z r rfl rfl h2k h1 h2 h12 f1 f2 w
      · exact do_form_2 k _ _ d A B C n g x p y q z r rfl rfl h2k h1 h2 h12 f1 f2 f3 w
  · have hk' : known k = false := by simpa using hk
    have hE : doE k (x, p) (y, q) (z, r) = 2 := by simp [doE, hk']
    have hT : doT k (x, p) (y, q) (z, r) = 0 := by simp [doT, hk']
    have hV : doV k n (x, p) (y, q) (z, r) = (0, 0) := by simp [doV, hk']
    rw [hE, hT, hV]
    simp only [known, Bool.or_eq_false_iff, decide_eq_false_iff_not] at hk'
    obtain ⟨h0, h2k⟩ := hk'
    exact do_none k _ _ d A B C n g x p y q z r rfl rfl h2k (by omega) (by omega) (by omega) w
end Go.Proofs.YtfkjkdoloamakaaDoor

/- What a run of a unit is, as a function on lists: the state, one step of it, many steps. Nothing of memory. -/
namespace Go.Proofs.YtfkjkdoloamakaaDoor
open Go.RowKit

structure EdS where
  k : Int
  a : Int
  t : Int
  l : Int
structure BlkS where
  ops : List OpI
  ed : EdS
  ct : Int
structure UnS where
  sizes : List Int
  params : Int
  regs : Int
  code : Int
  spill : Int
  blocks : List BlkS
/-- the state of a run: what registers, Spill cells and arrays hold, what was printed, what is next, how many steps, how it ended (0: it goes on), the ways, the counts -/
structure St where
  regs : List (Int × Int)
  kept : List (Int × Int)
  arrs : List (List Int)
  prints : List Int
  bl : Nat
  pc : Nat
  steps : Int
  kind : Int
  val : Int
  ways : List Int
  seen : List (Int × Int × Int)

def dOp : OpI := ⟨0, 0, 0, 0, 0, 0, 0⟩
def dBl : BlkS := ⟨[], ⟨0, 0, 0, 0⟩, 0⟩
/-- a register's value -/
def St.reg (s : St) (r : Int) : Int × Int := s.regs.getD r.toNat (0, 0)
def St.put (s : St) (r : Int) (v : Int × Int) : St := { s with regs := s.regs.set r.toNat v }
/-- a block is entered -/
def St.enter (s : St) (b : Nat) : St :=
  { s with bl := b, pc := 0, seen := s.seen.modify b (fun y => (wrap64 (y.1 + 1), y.2)), ways := if s.ways.length < 20000 then s.ways ++ [(b : Int)] else s.ways }
/-- a trap -/
def St.trap (U : UnS) (s : St) (n : Int) : St :=
  if (U.blocks.getD s.bl dBl).ct < 0 then { s with kind := 2, val := n } else (s.put U.code (n, 0)).enter (U.blocks.getD s.bl dBl).ct.toNat
/-- the first poison of some registers, or 0 -/
def badOf (regs : List (Int × Int)) : List Int → Int
  | [] => 0
  | r :: l => if (regs.getD r.toNat (0, 0)).2 ≠ 0 then (regs.getD r.toNat (0, 0)).2 else badOf regs l
/-- the registers that an operation on an array reads -/
def readsArr (o : OpI) : List Int := if o.k = 17 then [o.a, o.b] else [o.a]
def St.arr (s : St) (n : Int) : List Int := s.arrs.getD n.toNat []
/-- the poison or the trap's number with which an array is asked -/
def elemT (s : St) (o : OpI) : Int :=
  if badOf s.regs (readsArr o) ≠ 0 then badOf s.regs (readsArr o) else if (s.reg o.a).1 < 0 ∨ ((s.arr o.n).length : Int) ≤ (s.reg o.a).1 then -1 else 0
/-- what an operation that word does not know does: the state, the trap's number, whether the block is left -/
def St.act (s : St) (o : OpI) : St × Int × Bool :=
  if o.k = 18 then (s.put o.d (s.kept.getD o.n.toNat (0, 0)), 0, false)
  else if o.k = 19 then ({ s with kept := s.kept.set o.n.toNat (s.reg o.a) }, 0, false)
  else if o.k = 16 ∨ o.k = 25 ∨ o.k = 17 then
    (if elemT s o ≠ 0 ∧ o.k = 25 then (s.put o.d (0, elemT s o), 0, false)
     else if elemT s o ≠ 0 then (s, elemT s o, false)
     else if o.k = 17 then ({ s with arrs := s.arrs.modify o.n.toNat (fun l => l.set (s.reg o.a).1.toNat (s.reg o.b).1) }, 0, false)
     else (s.put o.d ((s.arr o.n).getD (s.reg o.a).1.toNat 0, 0), 0, false))
  else if (s.reg o.a).2 ≠ 0 then (s, (s.reg o.a).2, false)
  else if o.k = 20 then ({ s with prints := s.prints ++ [(s.reg o.a).1] }, 0, false)
  else if o.k = 21 ∧ (s.reg o.a).1 ≠ 0 then (s.enter o.n.toNat, 0, true)
  else (s, 0, false)
/-- what an operation does -/
def St.doR (s : St) (o : OpI) : St × Int × Bool :=
  if o.g ≠ -1 ∧ (s.reg o.g).2 ≠ 0 then (s, (s.reg o.g).2, false)
  else if o.g ≠ -1 ∧ (s.reg o.g).1 = 0 then (s, 0, false)
  else if known o.k = true then
    (if doT0 o.k (s.reg o.a) (s.reg o.b) ≠ 0 then (s, doT0 o.k (s.reg o.a) (s.reg o.b), false)
     else (s.put o.d (doV0 o.k o.n (s.reg o.a) (s.reg o.b) (s.reg o.c)), 0, false))
  else s.act o
/-- what the end of a block does -/
def St.leave (U : UnS) (s : St) (x : EdS) : St :=
  if x.k ≠ 1 ∧ (s.reg x.a).2 ≠ 0 then s.trap U (s.reg x.a).2
  else if x.k = 4 then s.trap U (s.reg x.a).1
  else if x.k = 3 then { s with kind := 1, val := (s.reg x.a).1 }
  else if x.k = 1 ∨ (s.reg x.a).1 ≠ 0 then ({ s with seen := s.seen.modify s.bl (fun y => (y.1, wrap64 (y.2.1 + 1), y.2.2)) }).enter x.t.toNat
  else ({ s with seen := s.seen.modify s.bl (fun y => (y.1, y.2.1, wrap64 (y.2.2 + 1))) }).enter x.l.toNat
/-- one step -/
def St.step (U : UnS) (s : St) : St :=
  let b := U.blocks.getD s.bl dBl
  let s1 : St := { s with steps := s.steps + 1 }
  if s.pc = b.ops.length then s1.leave U b.ed
  else
    let r := s1.doR (b.ops.getD s.pc dOp)
    if r.2.1 ≠ 0 then r.1.trap U r.2.1 else if r.2.2 then r.1 else { r.1 with pc := r.1.pc + 1 }
/-- at most so many steps -/
def St.run (U : UnS) : Nat → St → St
  | 0, s => s
  | n + 1, s => if s.kind = 0 then St.run U n (s.step U) else s
/-- the state in which a run of a unit begins -/
def St.init (U : UnS) (args : List Int) : St :=
  St.enter { regs := args.map (fun x => (x, 0)) ++ List.replicate (U.regs.toNat - args.length) (0, 0), kept := List.replicate U.spill.toNat (0, 0), arrs := U.sizes.map fun n => List.replicate n.toNat 0, prints := [], bl := 0, pc := 0, steps := 0, kind := 0, val := 0, ways := [], seen := List.replicate U.blocks.length (0, 0, 0) } 0

/-! ### units that are units -/
def inR (n k : Int) : Prop := 0 ≤ n ∧ n < k
structure OpGood (U : UnS) (o : OpI) : Prop where
  k1 : 1 ≤ o.k
  k2 : o.k ≤ 25
  d : inR o.d U.regs
  a : inR o.a U.regs
  b : inR o.b U.regs
  c : inR o.c U.regs
  g : o.g = -1 ∨ inR o.g U.regs
  arr : (o.k = 16 ∨ o.k = 17 ∨ o.k = 25) → inR o.n U.sizes.length
  cell : (o.k = 18 ∨ o.k = 19) → inR o.n U.spill
  exit : o.k = 21 → inR o.n U.blocks.length
structure EdGood (U : UnS) (e : EdS) : Prop where
  k1 : 1 ≤ e.k
  k2 : e.k ≤ 4
  a : inR e.a U.regs
  t : e.k = 1 ∨ e.k = 2 → inR e.t U.blocks.length
  l : e.k = 2 → inR e.l U.blocks.length
structure BlGood (U : UnS) (b : BlkS) : Prop where
  ops : ∀ o ∈ b.ops, OpGood U o
  ed : EdGood U b.ed
  ct : b.ct = -1 ∨ inR b.ct U.blocks.length
  len : b.ops.length ≤ 400
structure UnGood (U : UnS) : Prop where
  nb : 0 < U.blocks.length
  mb : U.blocks.length ≤ 2000
  r1 : 1 ≤ U.regs
  r2 : U.regs ≤ 4096
  sp : 0 ≤ U.spill
  sp2 : U.spill ≤ 4096
  par : 0 ≤ U.params ∧ U.params ≤ 8 ∧ U.params ≤ U.regs
  cd : inR U.code U.regs
  ns : U.sizes.length ≤ 16
  sz : ∀ n ∈ U.sizes, 1 ≤ n ∧ n ≤ 65536
  bls : ∀ b ∈ U.blocks, BlGood U b

/-- a state that fits its unit -/
structure StGood (U : UnS) (s : St) : Prop where
  regs : (s.regs.length : Int) = U.regs
  kept : (s.kept.length : Int) = U.spill
  arrs : s.arrs.length = U.sizes.length
  alen : ∀ l ∈ s.arrs, l.length ≤ 65536
  seen : s.seen.length = U.blocks.length
  bl : s.bl < U.blocks.length
  pc : s.pc ≤ (U.blocks.getD s.bl dBl).ops.length
  st0 : 0 ≤ s.steps
  st1 : s.steps ≤ 1000000000000
  pr : (s.prints.length : Int) ≤ s.steps
  ways : s.ways.length ≤ 20000
  form : ∀ v ∈ s.regs, fm v = true
  form2 : ∀ v ∈ s.kept, fm v = true
end Go.Proofs.YtfkjkdoloamakaaDoor

/- An engine in memory: its block, its rows, its unit; what writing one of them makes of the state that it holds. For the program's Engine and the specification's alike: the layout of the block is a parameter. -/
namespace Go.Proofs.YtfkjkdoloamakaaDoor
open Go.RowKit

/-! ### a unit in memory that is read -/
/-- A slice of n elements of that many cells, which lie in a block of F. -/
def Row (F : Nat → Prop) (w : World) (v : Value) (n size : Nat) (xs : List Value) : Prop :=
  xs.length = n * size ∧ ∃ A c, v = .slice A n c ∧ n ≤ c ∧ c ≤ maxLen ∧ (0 < n → ∃ g o, A = some ⟨g, o, none⟩ ∧ F g ∧ g < w.heap.size ∧ ∀ j u, xs[j]? = some u → w.cell? ⟨g, o + j, none⟩ = some u)
def opC (o : OpI) : List Value := [.int .i64 o.k, .int .i64 o.d, .int .i64 o.a, .int .i64 o.b, .int .i64 o.c, .int .i64 o.n, .int .i64 o.g]
def edC (e : EdS) : List Value := [.int .i64 e.k, .int .i64 e.a, .int .i64 e.t, .int .i64 e.l]
def edV (e : EdS) : Value := .agg #[.int .i64 e.k, .int .i64 e.a, .int .i64 e.t, .int .i64 e.l]
def opsC : List OpI → List Value
  | [] => []
  | o :: r => opC o ++ opsC r
def blsC : List Value → List BlkS → List Value
  | v :: vs, b :: r => (v :: edC b.ed ++ [.int .i64 b.ct]) ++ blsC vs r
  | _, _ => []
def numV (l : List Int) : List Value := l.map (Value.int .i64)
/-- the blocks of a unit, read -/
def RdBlocks (F : Nat → Prop) (w : World) (vb : Value) (bs : List BlkS) : Prop :=
  ∃ vs : List Value, vs.length = bs.length ∧ Row F w vb bs.length 6 (blsC vs bs) ∧ ∀ i (h : i < bs.length), Row F w (vs.getD i .nilFunc) (bs[i]).ops.length 7 (opsC (bs[i]).ops)

theorem Row.fr {F M : Nat → Prop} {w w' : World} {v : Value} {n size : Nat} {xs : List Value} (h : Row F w v n size xs) (hf : Fr M w w') (hn : ∀ g, F g → ¬ M g) : Row F w' v n size xs := by
  obtain ⟨h0, A, c, e, hc, hm, h1⟩ := h
  refine ⟨h0, A, c, e, hc, hm, fun hp => ?_⟩
  obtain ⟨g, o, ea, hF, hlt, hh⟩ := h1 hp
  exact ⟨g, o, ea, hF, Nat.lt_of_lt_of_le hlt hf.size, fun j u hu => hf.cell (hh j u hu) (hn g hF)⟩
theorem Row.mono {F F' : Nat → Prop} {w : World} {v : Value} {n size : Nat} {xs : List Value} (h : Row F w v n size xs) (hn : ∀ g, F g → g < w.heap.size → F' g) : Row F' w v n size xs := by
  obtain ⟨h0, A, c, e, hc, hm, h1⟩ := h
  refine ⟨h0, A, c, e, hc, hm, fun hp => ?_⟩
  obtain ⟨g, o, ea, hF, hlt, hh⟩ := h1 hp
  exact ⟨g, o, ea, hn g hF hlt, hlt, hh⟩
theorem RdBlocks.fr {F M : Nat → Prop} {w w' : World} {vb : Value} {bs : List BlkS} (h : RdBlocks F w vb bs) (hf : Fr M w w') (hn : ∀ g, F g → ¬ M g) : RdBlocks F w' vb bs := by
  obtain ⟨vs, h0, h1, h2⟩ := h
  exact ⟨vs, h0, h1.fr hf hn, fun i hi => (h2 i hi).fr hf hn⟩
theorem RdBlocks.mono {F F' : Nat → Prop} {w : World} {vb : Value} {bs : List BlkS} (h : RdBlocks F w vb bs) (hn : ∀ g, F g → g < w.heap.size → F' g) : RdBlocks F' w vb bs := by
  obtain ⟨vs, h0, h1, h2⟩ := h
  exact ⟨vs, h0, h1.mono hn, fun i hi => (h2 i hi).mono hn⟩

theorem opsC_length : ∀ l : List OpI, (opsC l).length = l.length * 7
  | [] => rfl
  | o :: r => by simp [opsC, opC, opsC_length r]; omega
theorem blsC_length : ∀ (vs : List Value) (l : List BlkS), vs.length = l.length → (blsC vs l).length = l.length * 6
  | [], [], _ => rfl
  | v :: vs, b :: r, h => by
    have := blsC_length vs r (by simpa using h)
    simp [blsC, edC, this]; omega
theorem opsC_at : ∀ (l : List OpI) (i : Nat) (_ : i < l.length) (j : Nat) (_ : j < 7), (opsC l)[i * 7 + j]? = (opC (l.getD i dOp))[j]?
  | o :: r, 0, _, j, hj => by
    simp only [opsC, Nat.zero_mul, Nat.zero_add, List.getD_cons_zero]
    rw [List.getElem?_append_left (by simpa [opC] using hj)]
  | o :: r, i + 1, h, j, hj => by
    simp only [opsC, List.getD_cons_succ]
    rw [List.getElem?_append_right (by simp [opC]; omega), show (i + 1) * 7 + j - (opC o).length = i * 7 + j by simp [opC]; omega]
    exact opsC_at r i (by simpa using h) j hj
theorem blsC_at : ∀ (vs : List Value) (l : List BlkS) (_ : vs.length = l.length) (i : Nat) (_ : i < l.length) (j : Nat) (_ : j < 6), (blsC vs l)[i * 6 + j]? = (vs.getD i .nilFunc :: edC (l.getD i dBl).ed ++ [.int .i64 (l.getD i dBl).ct])[j]?
  | [], [], _, i, hi, _, _ => absurd hi (by simp)
  | [], _ :: _, h, _, _, _, _ => by simp at h
  | _ :: _, [], h, _, _, _, _ => by simp at h
  | v :: vs, b :: r, _, 0, _, j, hj => by
    simp only [blsC, Nat.zero_mul, Nat.zero_add, List.getD_cons_zero]
    rw [List.getElem?_append_left (by simpa [edC] using hj)]
  | v :: vs, b :: r, h, i + 1, hi, j, hj => by
    simp only [blsC, List.getD_cons_succ]
    rw [List.getElem?_append_right (by simp [edC]; omega), show (i + 1) * 6 + j - (v :: edC b.ed ++ [Value.int .i64 b.ct]).length = i * 6 + j by simp [edC]; omega]
    exact blsC_at vs r (by simpa using h) i (by simpa using hi) j hj

theorem Fr.one (w : World) (g i : Nat) (u : Value) : Fr (fun b => b = g) w (w.setCell ⟨g, i, none⟩ u) := Fr.setCell (M := fun b => b = g) (p := ⟨g, i, none⟩) (Fr.refl _ w) (.inl rfl) u
theorem Fr.two (w : World) (g i j : Nat) (u v : Value) : Fr (fun b => b = g) w ((w.setCell ⟨g, i, none⟩ u).setCell ⟨g, j, none⟩ v) := Fr.setCell (M := fun b => b = g) (p := ⟨g, j, none⟩) (Fr.one w g i u) (.inl rfl) v

/-! ### an engine -/
structure EngL where
  us : Value
  ub : Value
  va : Value
  vp : Value
  vw : Value
  gr : Nat
  gc : Nat
  gs : Nat
  ga : List Nat
/-- how an engine's block is laid out -/
structure Lay where
  ty : TypeId
  cells : EngL → UnS → St → Array Value
  iP : Nat
  iW : Nat
  iA : Nat
def ownRow (g n : Nat) : Value := .slice (some ⟨g, 0, none⟩) n n
structure LayOk (y : Lay) : Prop where
  eq : ∀ (L : EngL) (U : UnS) (s s' : St), s'.regs.length = s.regs.length → s'.kept.length = s.kept.length → s'.seen.length = s.seen.length → s'.bl = s.bl → s'.pc = s.pc → s'.steps = s.steps → s'.kind = s.kind → s'.val = s.val → y.cells L U s' = y.cells L U s
  vp : ∀ (L : EngL) (U : UnS) (s : St) (v : Value), (y.cells L U s).setIfInBounds y.iP v = y.cells { L with vp := v } U s
  vw : ∀ (L : EngL) (U : UnS) (s : St) (v : Value), (y.cells L U s).setIfInBounds y.iW v = y.cells { L with vw := v } U s
  va : ∀ (L : EngL) (U : UnS) (s : St) (v : Value) (g : Nat), (y.cells L U s).setIfInBounds y.iA v = y.cells { L with va := v, ga := L.ga ++ [g] } U s
  t1 : y.ty ≠ 85
  t2 : y.ty ≠ 68
  t3 : y.ty ≠ 26
  t4 : y.ty ≠ 2
  t5 : y.ty ≠ 3
/-- the inner arrays' slices -/
def arrV : List Nat → List (List Int) → List Value
  | g :: gs, l :: ls => ownRow g l.length :: arrV gs ls
  | _, _ => []
/-- the blocks that an engine writes -/
def EngL.M (L : EngL) (p : Nat) (b : Nat) : Prop := b = p ∨ b = L.gr ∨ b = L.gc ∨ b = L.gs ∨ L.va.ownBlock = some b ∨ L.vp.ownBlock = some b ∨ L.vw.ownBlock = some b ∨ b ∈ L.ga
structure Eng (y : Lay) (F : Nat → Prop) (w : World) (p : Nat) (U : UnS) (s : St) (L : EngL) : Prop where
  blk : Blk w p y.ty (y.cells L U s)
  regs : Blk w L.gr 85 (valC s.regs).toArray
  kept : Blk w L.gc 85 (valC s.kept).toArray
  seen : Blk w L.gs 68 (cntC s.seen).toArray
  arrs : w.ownsRow 0 26 1 L.va s.arrs.length (arrV L.ga s.arrs)
  ga : L.ga.length = s.arrs.length
  inner : ∀ j (h : j < s.arrs.length), Blk w (L.ga.getD j 0) 2 (numV (s.arrs[j])).toArray
  prints : w.ownsRow 0 2 1 L.vp s.prints.length (numV s.prints)
  ways : w.ownsRow 0 3 1 L.vw s.ways.length (numV s.ways)
  code : RdBlocks F w L.ub U.blocks
  rc : L.gr ≠ L.gc
  ap : ∀ g ∈ L.ga, L.vp.ownBlock ≠ some g
  aa : L.ga.Nodup
  away : ∀ g, F g → ¬ L.M p g
  flt : ∀ g, F g → g < w.heap.size

variable {y : Lay} {F : Nat → Prop} {w w' : World} {p : Nat} {U : UnS} {s s' : St} {L : EngL}

theorem Eng.ga_mem (h : Eng y F w p U s L) {g : Nat} (hg : g ∈ L.ga) : ∃ cs, Blk w g 2 cs := by
  obtain ⟨j, hj, rfl⟩ := List.getElem_of_mem hg
  have := h.inner j (by rw [← h.ga]; exact hj)
  rw [List.getD_eq_getElem?_getD, List.getElem?_eq_getElem hj] at this
  exact ⟨_, this⟩
theorem Eng.ga_at (h : Eng y F w p U s L) (j : Nat) (hj : j < s.arrs.length) : L.ga.getD j 0 ∈ L.ga := by
  have hj' : j < L.ga.length := by rw [h.ga]; exact hj
  rw [List.getD_eq_getElem?_getD, List.getElem?_eq_getElem hj']
  exact List.getElem_mem hj'
/-- what leaves all of an engine's blocks alone leaves the engine -/
theorem Eng.fr {M : Nat → Prop} (h : Eng y F w p U s L) (hf : Fr M w w') (hn : ∀ b, L.M p b → ¬ M b) (hF : ∀ g, F g → ¬ M g) : Eng y F w' p U s L :=
    { blk := h.blk.fr hf (hn _ (.inl rfl)), regs := h.regs.fr hf (hn _ (.inr (.inl rfl))), kept := h.kept.fr hf (hn _ (.inr (.inr (.inl rfl)))), seen := h.seen.fr hf (hn _ (.inr (.inr (.inr (.inl rfl))))),
      arrs := own_fr h.arrs hf fun _ hk => hn _ (.inr (.inr (.inr (.inr (.inl hk))))), ga := h.ga,
      inner := fun j hj => (h.inner j hj).fr hf (hn _ (.inr (.inr (.inr (.inr (.inr (.inr (.inr (h.ga_at j hj))))))))),
      prints := own_fr h.prints hf fun _ hk => hn _ (.inr (.inr (.inr (.inr (.inr (.inl hk)))))), ways := own_fr h.ways hf fun _ hk => hn _ (.inr (.inr (.inr (.inr (.inr (.inr (.inl hk))))))),
      code := h.code.fr hf hF, rc := h.rc, ap := h.ap, aa := h.aa, away := h.away, flt := fun g hg => Nat.lt_of_lt_of_le (h.flt g hg) hf.size }
theorem Eng.below (h : Eng y F w p U s L) (hb : Below w.heap.size w w') : Eng y F w' p U s L :=
  h.fr (M := fun _ => False) (Fr.of_below hb) (fun _ _ => not_false) (fun _ _ => not_false)
theorem Eng.drewN (h : Eng y F w p U s L) (n : Nat) : Eng y F (w.drewN n) p U s L := h.fr (M := fun _ => False) ((Fr.refl _ w).drewN n) (fun _ _ => not_false) (fun _ _ => not_false)
theorem Eng.alloc (h : Eng y F w p U s L) (o : Obj) : Eng y F (w.alloc o) p U s L := h.fr (M := fun _ => False) ((Fr.refl _ w).alloc o) (fun _ _ => not_false) (fun _ _ => not_false)
/-- an engine's blocks are blocks of the world -/
theorem Eng.lt (h : Eng y F w p U s L) (b : Nat) (hb : L.M p b) : b < w.heap.size := by
  rcases hb with rfl | rfl | rfl | rfl | hb | hb | hb | hb
  · exact h.blk.lt
  · exact h.regs.lt
  · exact h.kept.lt
  · exact h.seen.lt
  · exact (h.arrs.lt b hb).2
  · exact (h.prints.lt b hb).2
  · exact (h.ways.lt b hb).2
  · obtain ⟨cs, hc⟩ := h.ga_mem hb; exact hc.lt

/-- the engine's block alone has been written -/
theorem Eng.newP (hy : LayOk y) (h : Eng y F w p U s L) (hf : Fr (fun b => b = p) w w') (hB : Blk w' p y.ty (y.cells L U s')) (e1 : s'.regs = s.regs) (e2 : s'.kept = s.kept) (e3 : s'.arrs = s.arrs) (e4 : s'.prints = s.prints) (e5 : s'.ways = s.ways) (e6 : s'.seen = s.seen) : Eng y F w' p U s' L :=
    { blk := hB, regs := (by rw [e1]; exact h.regs.fr hf (h.blk.ne_ h.regs hy.t1).symm), kept := (by rw [e2]; exact h.kept.fr hf (h.blk.ne_ h.kept hy.t1).symm), seen := (by rw [e6]; exact h.seen.fr hf (h.blk.ne_ h.seen hy.t2).symm),
      arrs := (by rw [e3]; exact own_fr h.arrs hf fun k hk e => own_blk_ne h.arrs h.blk hy.t3.symm (by rw [hk, e])), ga := (by rw [e3]; exact h.ga),
      inner := (by rw [e3]; exact fun j hj => (h.inner j hj).fr hf (h.blk.ne_ (h.inner j hj) hy.t4).symm),
      prints := (by rw [e4]; exact own_fr h.prints hf fun k hk e => own_blk_ne h.prints h.blk hy.t4.symm (by rw [hk, e])), ways := (by rw [e5]; exact own_fr h.ways hf fun k hk e => own_blk_ne h.ways h.blk hy.t5.symm (by rw [hk, e])),
      code := h.code.fr hf fun g hg e => h.away g hg (.inl e), rc := h.rc, ap := h.ap, aa := h.aa, away := h.away, flt := fun g hg => Nat.lt_of_lt_of_le (h.flt g hg) hf.size }

/-- a register has been written -/
theorem Eng.newReg (hy : LayOk y) (h : Eng y F w p U s L) (r : Nat) (v : Int × Int) : Eng y F ((w.setCell ⟨L.gr, r * 2, none⟩ (.int .i64 v.1)).setCell ⟨L.gr, r * 2 + 1, none⟩ (.int .i64 v.2)) p U { s with regs := s.regs.set r v } L := by
  have hf : Fr (fun b => b = L.gr) w ((w.setCell ⟨L.gr, r * 2, none⟩ (.int .i64 v.1)).setCell ⟨L.gr, r * 2 + 1, none⟩ (.int .i64 v.2)) := Fr.two _ _ _ _ _ _
  have e : y.cells L U { s with regs := s.regs.set r v } = y.cells L U s := hy.eq _ _ _ _ (by simp) rfl rfl rfl rfl rfl rfl rfl
  refine
    { blk := (by rw [e]; exact h.blk.fr hf (h.blk.ne_ h.regs hy.t1)), regs := ?_, kept := h.kept.fr hf h.rc.symm, seen := h.seen.fr hf (h.seen.ne_ h.regs (by decide)),
      arrs := own_fr h.arrs hf fun k hk e => own_blk_ne h.arrs h.regs (by decide) (by rw [hk, e]), ga := h.ga,
      inner := fun j hj => (h.inner j hj).fr hf ((h.inner j hj).ne_ h.regs (by decide)),
      prints := own_fr h.prints hf fun k hk e => own_blk_ne h.prints h.regs (by decide) (by rw [hk, e]), ways := own_fr h.ways hf fun k hk e => own_blk_ne h.ways h.regs (by decide) (by rw [hk, e]),
      code := h.code.fr hf fun g hg e => h.away g hg (.inr (.inl e)), rc := h.rc, ap := h.ap, aa := h.aa, away := h.away, flt := fun g hg => Nat.lt_of_lt_of_le (h.flt g hg) hf.size }
  have hb := (h.regs.set_ (r * 2) (.int .i64 v.1)).set_ (r * 2 + 1) (.int .i64 v.2)
  simp only [List.setIfInBounds_toArray] at hb
  rw [valC_set s.regs r v] at hb
  exact hb
theorem Eng.newKept (hy : LayOk y) (h : Eng y F w p U s L) (r : Nat) (v : Int × Int) : Eng y F ((w.setCell ⟨L.gc, r * 2, none⟩ (.int .i64 v.1)).setCell ⟨L.gc, r * 2 + 1, none⟩ (.int .i64 v.2)) p U { s with kept := s.kept.set r v } L := by
  have hf : Fr (fun b => b = L.gc) w ((w.setCell ⟨L.gc, r * 2, none⟩ (.int .i64 v.1)).setCell ⟨L.gc, r * 2 + 1, none⟩ (.int .i64 v.2)) := Fr.two _ _ _ _ _ _
  have e : y.cells L U { s with kept := s.kept.set r v } = y.cells L U s := hy.eq _ _ _ _ rfl (by simp) rfl rfl rfl rfl rfl rfl
  refine
    { blk := (by rw [e]; exact h.blk.fr hf (h.blk.ne_ h.kept hy.t1)), regs := h.regs.fr hf h.rc, kept := ?_, seen := h.seen.fr hf (h.seen.ne_ h.kept (by decide)),
      arrs := own_fr h.arrs hf fun k hk e => own_blk_ne h.arrs h.kept (by decide) (by rw [hk, e]), ga := h.ga,
      inner := fun j hj => (h.inner j hj).fr hf ((h.inner j hj).ne_ h.kept (by decide)),
      prints := own_fr h.prints hf fun k hk e => own_blk_ne h.prints h.kept (by decide) (by rw [hk, e]), ways := own_fr h.ways hf fun k hk e => own_blk_ne h.ways h.kept (by decide) (by rw [hk, e]),
      code := h.code.fr hf fun g hg e => h.away g hg (.inr (.inr (.inl e))), rc := h.rc, ap := h.ap, aa := h.aa, away := h.away, flt := fun g hg => Nat.lt_of_lt_of_le (h.flt g hg) hf.size }
  have hb := (h.kept.set_ (r * 2) (.int .i64 v.1)).set_ (r * 2 + 1) (.int .i64 v.2)
  simp only [List.setIfInBounds_toArray] at hb
  rw [valC_set s.kept r v] at hb
  exact hb
/-- a count has been written: the row of counts -/
theorem Eng.newSeen (hy : LayOk y) (h : Eng y F w p U s L) (i : Nat) (u : Value) (l : List (Int × Int × Int)) (hl : l.length = s.seen.length) (e0 : (cntC s.seen).set i u = cntC l) : Eng y F (w.setCell ⟨L.gs, i, none⟩ u) p U { s with seen := l } L := by
  have hf : Fr (fun b => b = L.gs) w (w.setCell ⟨L.gs, i, none⟩ u) := Fr.one _ _ _ _
  have e : y.cells L U { s with seen := l } = y.cells L U s := hy.eq _ _ _ _ rfl rfl hl rfl rfl rfl rfl rfl
  refine
    { blk := (by rw [e]; exact h.blk.fr hf (h.blk.ne_ h.seen hy.t2)), regs := h.regs.fr hf (h.regs.ne_ h.seen (by decide)), kept := h.kept.fr hf (h.kept.ne_ h.seen (by decide)), seen := ?_,
      arrs := own_fr h.arrs hf fun k hk e => own_blk_ne h.arrs h.seen (by decide) (by rw [hk, e]), ga := h.ga,
      inner := fun j hj => (h.inner j hj).fr hf ((h.inner j hj).ne_ h.seen (by decide)),
      prints := own_fr h.prints hf fun k hk e => own_blk_ne h.prints h.seen (by decide) (by rw [hk, e]), ways := own_fr h.ways hf fun k hk e => own_blk_ne h.ways h.seen (by decide) (by rw [hk, e]),
      code := h.code.fr hf fun g hg e => h.away g hg (.inr (.inr (.inr (.inl e)))), rc := h.rc, ap := h.ap, aa := h.aa, away := h.away, flt := fun g hg => Nat.lt_of_lt_of_le (h.flt g hg) hf.size }
  have hb := h.seen.set_ i u
  simp only [List.setIfInBounds_toArray] at hb
  rw [e0] at hb
  exact hb
theorem arrV_modify : ∀ (gs : List Nat) (ls : List (List Int)) (n : Nat) (f : List Int → List Int) (_ : ∀ l, (f l).length = l.length), arrV gs (ls.modify n f) = arrV gs ls
  | [], ls, n, f, _ => by cases h : ls.modify n f <;> cases ls <;> simp [arrV]
  | g :: gs, [], n, f, _ => by simp [arrV]
  | g :: gs, l :: ls, 0, f, hf => by simp [arrV, hf]
  | g :: gs, l :: ls, n + 1, f, hf => by simp [arrV, arrV_modify gs ls n f hf]
theorem numV_set (l : List Int) (i : Nat) (x : Int) : (numV l).set i (.int .i64 x) = numV (l.set i x) := by simp [numV, List.map_set]
/-- an element of an array has been written -/
theorem Eng.newArr (hy : LayOk y) (h : Eng y F w p U s L) (n i : Nat) (hn : n < s.arrs.length) (x : Int) : Eng y F (w.setCell ⟨L.ga.getD n 0, i, none⟩ (.int .i64 x)) p U { s with arrs := s.arrs.modify n fun l => l.set i x } L := by
  obtain ⟨g, hg⟩ : ∃ g, g = L.ga.getD n 0 := ⟨_, rfl⟩
  have hm : g ∈ L.ga := by rw [hg]; exact h.ga_at n hn
  have hG : Blk w g 2 (numV (s.arrs[n])).toArray := by rw [hg]; exact h.inner n hn
  rw [← hg]
  have hf : Fr (fun b => b = g) w (w.setCell ⟨g, i, none⟩ (.int .i64 x)) := Fr.one _ _ _ _
  have e : y.cells L U { s with arrs := s.arrs.modify n fun l => l.set i x } = y.cells L U s := hy.eq _ _ _ _ rfl rfl rfl rfl rfl rfl rfl rfl
  refine
    { blk := (by rw [e]; exact h.blk.fr hf (h.blk.ne_ hG hy.t4)), regs := h.regs.fr hf (h.regs.ne_ hG (by decide)), kept := h.kept.fr hf (h.kept.ne_ hG (by decide)), seen := h.seen.fr hf (h.seen.ne_ hG (by decide)),
      arrs := ?_, ga := by simpa using h.ga,
      inner := ?_,
      prints := own_fr h.prints hf fun k hk e => h.ap g hm (by rw [hk, e]), ways := own_fr h.ways hf fun k hk e => own_blk_ne h.ways hG (by decide) (by rw [hk, e]),
      code := h.code.fr hf fun g' hg' e => h.away g' hg' (.inr (.inr (.inr (.inr (.inr (.inr (.inr (e ▸ hm)))))))), rc := h.rc, ap := h.ap, aa := h.aa, away := h.away, flt := fun g hg => Nat.lt_of_lt_of_le (h.flt g hg) hf.size }
  · have := own_fr h.arrs hf fun k hk e => own_blk_ne h.arrs hG (by decide) (by rw [hk, e])
    simp only [List.length_modify]
    rw [arrV_modify _ _ _ _ (fun l => by simp)]
    exact this
  · intro j hj
    have hj' : j < s.arrs.length := by simpa using hj
    by_cases hjn : j = n
    · subst hjn
      rw [← hg]
      have hb := hG.set_ i (.int .i64 x)
      simp only [List.setIfInBounds_toArray] at hb
      rw [numV_set] at hb
      simpa using hb
    · have hne : L.ga.getD j 0 ≠ g := by
        intro ee
        have h1 : j < L.ga.length := by rw [h.ga]; exact hj'
        have h2 : n < L.ga.length := by rw [h.ga]; exact hn
        rw [hg, List.getD_eq_getElem?_getD, List.getD_eq_getElem?_getD, List.getElem?_eq_getElem h1, List.getElem?_eq_getElem h2] at ee
        exact hjn ((List.getElem_inj h.aa).1 (by simpa using ee))
      have hb := (h.inner j hj').fr hf hne
      simp only
      rw [List.getElem_modify, if_neg (fun e => hjn e.symm)]
      exact hb
/-- something has been appended to the prints: the world behind the append, and behind the store of the new slice -/
theorem Eng.newPrints (hy : LayOk y) (h : Eng y F w p U s L) {w1 : World} {v : Value} {l : List Int} (hg : w.grownBy w1 L.vp.ownBlock) (ho : w1.ownsRow 0 2 1 v l.length (numV l)) (hv : v.ownBlock = L.vp.ownBlock ∨ ∃ k, v.ownBlock = some k ∧ w.heap.size ≤ k) : Eng y F (w1.setCell ⟨p, y.iP, none⟩ v) p U { s with prints := l } { L with vp := v } := by
  have hf0 : Fr (fun b => L.vp.ownBlock = some b) w w1 := Fr.of_grown hg fun k hk => hk
  have hf1 : Fr (fun b => L.vp.ownBlock = some b ∨ b = p) w (w1.setCell ⟨p, y.iP, none⟩ v) := (hf0.mono fun _ hi => .inl hi).setCell (p := ⟨p, y.iP, none⟩) (.inl (.inr rfl)) v
  have hp1 := h.blk.fr hf0 (own_blk_ne h.prints h.blk hy.t4.symm)
  have hb := hp1.set_ y.iP v
  rw [hy.vp] at hb
  have hcell : y.cells { L with vp := v } U { s with prints := l } = y.cells { L with vp := v } U s := hy.eq _ _ _ _ rfl rfl rfl rfl rfl rfl rfl rfl
  have ne : ∀ {b t cs}, Blk w b t cs → t ≠ 2 → t ≠ y.ty → ¬ (L.vp.ownBlock = some b ∨ b = p) := fun hB h1 h2 e => e.elim (own_blk_ne h.prints hB h1.symm) (h.blk.ne_ hB h2.symm).symm
  refine
    { blk := (by rw [hcell]; exact hb), regs := h.regs.fr hf1 (ne h.regs (by decide) hy.t1.symm), kept := h.kept.fr hf1 (ne h.kept (by decide) hy.t1.symm), seen := h.seen.fr hf1 (ne h.seen (by decide) hy.t2.symm),
      arrs := own_fr h.arrs hf1 fun k hk e => e.elim (own_own_ne h.arrs h.prints (by decide) k hk) (fun e => own_blk_ne h.arrs h.blk hy.t3.symm (by rw [hk, e])), ga := h.ga,
      inner := fun j hj => (h.inner j hj).fr hf1 fun e => e.elim (h.ap _ (h.ga_at j hj)) (fun e => h.blk.ne_ (h.inner j hj) hy.t4 e.symm),
      prints := own_far ho ?_ v, ways := own_fr h.ways hf1 fun k hk e => e.elim (own_own_ne h.ways h.prints (by decide) k hk) (fun e => own_blk_ne h.ways h.blk hy.t5.symm (by rw [hk, e])),
      code := h.code.fr hf1 fun g hg e => h.away g hg (e.elim (fun e => .inr (.inr (.inr (.inr (.inr (.inl e)))))) .inl), rc := h.rc, ap := ?_, aa := h.aa, away := ?_, flt := fun g hg => Nat.lt_of_lt_of_le (h.flt g hg) hf1.size }
  · intro e
    rcases hv with hv | ⟨k, hk, hlt⟩
    · rw [hv] at e; exact own_blk_ne h.prints h.blk hy.t4.symm e
    · rw [hk] at e; have := h.blk.lt; injection e with e; simp only at e; omega
  · intro g hgm e
    rcases hv with hv | ⟨k, hk, hlt⟩
    · exact h.ap g hgm (by rw [← hv]; exact e)
    · have e' : v.ownBlock = some g := e
      rw [hk] at e'
      obtain ⟨cs, hc⟩ := h.ga_mem hgm
      have := hc.lt; injection e' with e'; omega
  · intro g hgF hm
    rcases hm with hm | hm | hm | hm | hm | hm | hm | hm
    · exact h.away g hgF (.inl hm)
    · exact h.away g hgF (.inr (.inl hm))
    · exact h.away g hgF (.inr (.inr (.inl hm)))
    · exact h.away g hgF (.inr (.inr (.inr (.inl hm))))
    · exact h.away g hgF (.inr (.inr (.inr (.inr (.inl hm)))))
    · rcases hv with hv | ⟨k, hk, hlt⟩
      · exact h.away g hgF (.inr (.inr (.inr (.inr (.inr (.inl (by rw [← hv]; exact hm)))))))
      · have e' : v.ownBlock = some g := hm
        rw [hk] at e'
        have := h.flt g hgF; injection e' with e'; omega
    · exact h.away g hgF (.inr (.inr (.inr (.inr (.inr (.inr (.inl hm)))))))
    · exact h.away g hgF (.inr (.inr (.inr (.inr (.inr (.inr (.inr hm)))))))
end Go.Proofs.YtfkjkdoloamakaaDoor

/- An engine in memory, part two: what is appended to its ways; an engine that was reached from another world; the two layouts; what their cells hold. -/
namespace Go.Proofs.YtfkjkdoloamakaaDoor
open Go.RowKit
variable {y : Lay} {F : Nat → Prop} {w w' : World} {p : Nat} {U : UnS} {s s' : St} {L : EngL}

/-- something has been appended to the ways: the world behind the append, and behind the store of the new slice -/
theorem Eng.newWays (hy : LayOk y) (h : Eng y F w p U s L) {w1 : World} {v : Value} {l : List Int} (hg : w.grownBy w1 L.vw.ownBlock) (ho : w1.ownsRow 0 3 1 v l.length (numV l)) (hv : v.ownBlock = L.vw.ownBlock ∨ ∃ k, v.ownBlock = some k ∧ w.heap.size ≤ k) : Eng y F (w1.setCell ⟨p, y.iW, none⟩ v) p U { s with ways := l } { L with vw := v } := by
  have hf0 : Fr (fun b => L.vw.ownBlock = some b) w w1 := Fr.of_grown hg fun k hk => hk
  have hf1 : Fr (fun b => L.vw.ownBlock = some b ∨ b = p) w (w1.setCell ⟨p, y.iW, none⟩ v) := (hf0.mono fun _ hi => .inl hi).setCell (p := ⟨p, y.iW, none⟩) (.inl (.inr rfl)) v
  have hp1 := h.blk.fr hf0 (own_blk_ne h.ways h.blk hy.t5.symm)
  have hb := hp1.set_ y.iW v
  rw [hy.vw] at hb
  have hcell : y.cells { L with vw := v } U { s with ways := l } = y.cells { L with vw := v } U s := hy.eq _ _ _ _ rfl rfl rfl rfl rfl rfl rfl rfl
  have ne : ∀ {b t cs}, Blk w b t cs → t ≠ 3 → t ≠ y.ty → ¬ (L.vw.ownBlock = some b ∨ b = p) := fun hB h1 h2 e => e.elim (own_blk_ne h.ways hB h1.symm) (h.blk.ne_ hB h2.symm).symm
  refine
    { blk := (by rw [hcell]; exact hb), regs := h.regs.fr hf1 (ne h.regs (by decide) hy.t1.symm), kept := h.kept.fr hf1 (ne h.kept (by decide) hy.t1.symm), seen := h.seen.fr hf1 (ne h.seen (by decide) hy.t2.symm),
      arrs := own_fr h.arrs hf1 fun k hk e => e.elim (own_own_ne h.arrs h.ways (by decide) k hk) (fun e => own_blk_ne h.arrs h.blk hy.t3.symm (by rw [hk, e])), ga := h.ga,
      inner := fun j hj => (h.inner j hj).fr hf1 (ne (h.inner j hj) (by decide) hy.t4.symm),
      prints := own_fr h.prints hf1 fun k hk e => e.elim (own_own_ne h.prints h.ways (by decide) k hk) (fun e => own_blk_ne h.prints h.blk hy.t4.symm (by rw [hk, e])), ways := own_far ho ?_ v,
      code := h.code.fr hf1 fun g hg e => h.away g hg (e.elim (fun e => .inr (.inr (.inr (.inr (.inr (.inr (.inl e))))))) .inl), rc := h.rc, ap := h.ap, aa := h.aa, away := ?_, flt := fun g hg => Nat.lt_of_lt_of_le (h.flt g hg) hf1.size }
  · intro e
    rcases hv with hv | ⟨k, hk, hlt⟩
    · rw [hv] at e; exact own_blk_ne h.ways h.blk hy.t5.symm e
    · rw [hk] at e; have := h.blk.lt; injection e with e; simp only at e; omega
  · intro g hgF hm
    rcases hm with hm | hm | hm | hm | hm | hm | hm | hm
    · exact h.away g hgF (.inl hm)
    · exact h.away g hgF (.inr (.inl hm))
    · exact h.away g hgF (.inr (.inr (.inl hm)))
    · exact h.away g hgF (.inr (.inr (.inr (.inl hm))))
    · exact h.away g hgF (.inr (.inr (.inr (.inr (.inl hm)))))
    · exact h.away g hgF (.inr (.inr (.inr (.inr (.inr (.inl hm))))))
    · rcases hv with hv | ⟨k, hk, hlt⟩
      · exact h.away g hgF (.inr (.inr (.inr (.inr (.inr (.inr (.inl (by rw [← hv]; exact hm))))))))
      · have e' : v.ownBlock = some g := hm
        rw [hk] at e'
        have := h.flt g hgF; injection e' with e'; omega
    · exact h.away g hgF (.inr (.inr (.inr (.inr (.inr (.inr (.inr hm)))))))

/-- An engine in w, which was reached from w0 by writing blocks of M0 and new ones alone. -/
structure EngQ (y : Lay) (F : Nat → Prop) (w0 : World) (M0 : Nat → Prop) (w : World) (p : Nat) (U : UnS) (s : St) (L : EngL) : Prop where
  e : Eng y F w p U s L
  f : Fr M0 w0 w
  m : ∀ b, L.M p b → M0 b ∨ w0.heap.size ≤ b
def EngX (y : Lay) (F : Nat → Prop) (w0 : World) (M0 : Nat → Prop) (w : World) (p : Nat) (U : UnS) (s : St) : Prop := ∃ L, EngQ y F w0 M0 w p U s L
variable {w0 : World} {M0 : Nat → Prop}
theorem EngQ.x (h : EngQ y F w0 M0 w p U s L) : EngX y F w0 M0 w p U s := ⟨L, h⟩
theorem Eng.q (h : Eng y F w p U s L) : EngQ y F w (L.M p) w p U s L := ⟨h, Fr.refl _ _, fun _ hb => .inl hb⟩
theorem EngQ.below (h : EngQ y F w0 M0 w p U s L) (hb : Below w.heap.size w w') : EngQ y F w0 M0 w' p U s L := ⟨h.e.below hb, h.f.then_ (Fr.of_below hb), h.m⟩
theorem EngQ.drewN (h : EngQ y F w0 M0 w p U s L) (n : Nat) : EngQ y F w0 M0 (w.drewN n) p U s L := ⟨h.e.drewN n, h.f.drewN n, h.m⟩
theorem EngQ.alloc (h : EngQ y F w0 M0 w p U s L) (o : Obj) : EngQ y F w0 M0 (w.alloc o) p U s L := ⟨h.e.alloc o, h.f.alloc o, h.m⟩
theorem EngQ.newP (hy : LayOk y) (h : EngQ y F w0 M0 w p U s L) (hf : Fr (fun b => b = p) w w') (hB : Blk w' p y.ty (y.cells L U s')) (e1 : s'.regs = s.regs) (e2 : s'.kept = s.kept) (e3 : s'.arrs = s.arrs) (e4 : s'.prints = s.prints) (e5 : s'.ways = s.ways) (e6 : s'.seen = s.seen) : EngQ y F w0 M0 w' p U s' L :=
  ⟨h.e.newP hy hf hB e1 e2 e3 e4 e5 e6, h.f.trans hf fun i hi => by subst hi; exact h.m _ (.inl rfl), h.m⟩
theorem EngQ.newReg (hy : LayOk y) (h : EngQ y F w0 M0 w p U s L) (r : Nat) (v : Int × Int) : EngQ y F w0 M0 ((w.setCell ⟨L.gr, r * 2, none⟩ (.int .i64 v.1)).setCell ⟨L.gr, r * 2 + 1, none⟩ (.int .i64 v.2)) p U { s with regs := s.regs.set r v } L :=
  ⟨h.e.newReg hy r v, h.f.trans (Fr.two _ _ _ _ _ _) fun i hi => by subst hi; exact h.m _ (.inr (.inl rfl)), h.m⟩
theorem EngQ.newKept (hy : LayOk y) (h : EngQ y F w0 M0 w p U s L) (r : Nat) (v : Int × Int) : EngQ y F w0 M0 ((w.setCell ⟨L.gc, r * 2, none⟩ (.int .i64 v.1)).setCell ⟨L.gc, r * 2 + 1, none⟩ (.int .i64 v.2)) p U { s with kept := s.kept.set r v } L :=
  ⟨h.e.newKept hy r v, h.f.trans (Fr.two _ _ _ _ _ _) fun i hi => by subst hi; exact h.m _ (.inr (.inr (.inl rfl))), h.m⟩
theorem EngQ.newSeen (hy : LayOk y) (h : EngQ y F w0 M0 w p U s L) (i : Nat) (u : Value) (l : List (Int × Int × Int)) (hl : l.length = s.seen.length) (e0 : (cntC s.seen).set i u = cntC l) : EngQ y F w0 M0 (w.setCell ⟨L.gs, i, none⟩ u) p U { s with seen := l } L :=
  ⟨h.e.newSeen hy i u l hl e0, h.f.trans (Fr.one _ _ _ _) fun i hi => by subst hi; exact h.m _ (.inr (.inr (.inr (.inl rfl)))), h.m⟩
theorem EngQ.newArr (hy : LayOk y) (h : EngQ y F w0 M0 w p U s L) (n i : Nat) (hn : n < s.arrs.length) (x : Int) : EngQ y F w0 M0 (w.setCell ⟨L.ga.getD n 0, i, none⟩ (.int .i64 x)) p U { s with arrs := s.arrs.modify n fun l => l.set i x } L :=
  ⟨h.e.newArr hy n i hn x, h.f.trans (Fr.one _ _ _ _) fun i hi => by subst hi; exact h.m _ (.inr (.inr (.inr (.inr (.inr (.inr (.inr (h.e.ga_at n hn)))))))), h.m⟩
theorem EngQ.newPrints (hy : LayOk y) (h : EngQ y F w0 M0 w p U s L) {w1 : World} {v : Value} {l : List Int} (hg : w.grownBy w1 L.vp.ownBlock) (ho : w1.ownsRow 0 2 1 v l.length (numV l)) (hv : v.ownBlock = L.vp.ownBlock ∨ ∃ k, v.ownBlock = some k ∧ w.heap.size ≤ k) : EngQ y F w0 M0 (w1.setCell ⟨p, y.iP, none⟩ v) p U { s with prints := l } { L with vp := v } := by
  refine ⟨h.e.newPrints hy hg ho hv, (h.f.trans (Fr.of_grown (M := fun b => L.vp.ownBlock = some b) hg fun k hk => hk) fun i hi => h.m _ (.inr (.inr (.inr (.inr (.inr (.inl hi))))))).setCell (p := ⟨p, y.iP, none⟩) (h.m _ (.inl rfl)) v, fun b hb => ?_⟩
  rcases hb with hb | hb | hb | hb | hb | hb | hb | hb
  · exact h.m b (.inl hb)
  · exact h.m b (.inr (.inl hb))
  · exact h.m b (.inr (.inr (.inl hb)))
  · exact h.m b (.inr (.inr (.inr (.inl hb))))
  · exact h.m b (.inr (.inr (.inr (.inr (.inl hb)))))
  · rcases hv with hv | ⟨k, hk, hlt⟩
    · exact h.m b (.inr (.inr (.inr (.inr (.inr (.inl (by rw [← hv]; exact hb)))))))
    · have e' : v.ownBlock = some b := hb
      rw [hk] at e'; injection e' with e'; have := h.f.size; exact .inr (by omega)
  · exact h.m b (.inr (.inr (.inr (.inr (.inr (.inr (.inl hb)))))))
  · exact h.m b (.inr (.inr (.inr (.inr (.inr (.inr (.inr hb)))))))
theorem EngQ.newWays (hy : LayOk y) (h : EngQ y F w0 M0 w p U s L) {w1 : World} {v : Value} {l : List Int} (hg : w.grownBy w1 L.vw.ownBlock) (ho : w1.ownsRow 0 3 1 v l.length (numV l)) (hv : v.ownBlock = L.vw.ownBlock ∨ ∃ k, v.ownBlock = some k ∧ w.heap.size ≤ k) : EngQ y F w0 M0 (w1.setCell ⟨p, y.iW, none⟩ v) p U { s with ways := l } { L with vw := v } := by
  refine ⟨h.e.newWays hy hg ho hv, (h.f.trans (Fr.of_grown (M := fun b => L.vw.ownBlock = some b) hg fun k hk => hk) fun i hi => h.m _ (.inr (.inr (.inr (.inr (.inr (.inr (.inl hi)))))))).setCell (p := ⟨p, y.iW, none⟩) (h.m _ (.inl rfl)) v, fun b hb => ?_⟩
  rcases hb with hb | hb | hb | hb | hb | hb | hb | hb
  · exact h.m b (.inl hb)
  · exact h.m b (.inr (.inl hb))
  · exact h.m b (.inr (.inr (.inl hb)))
  · exact h.m b (.inr (.inr (.inr (.inl hb))))
  · exact h.m b (.inr (.inr (.inr (.inr (.inl hb)))))
  · exact h.m b (.inr (.inr (.inr (.inr (.inr (.inl hb))))))
  · rcases hv with hv | ⟨k, hk, hlt⟩
    · exact h.m b (.inr (.inr (.inr (.inr (.inr (.inr (.inl (by rw [← hv]; exact hb))))))))
    · have e' : v.ownBlock = some b := hb
      rw [hk] at e'; injection e' with e'; have := h.f.size; exact .inr (by omega)
  · exact h.m b (.inr (.inr (.inr (.inr (.inr (.inr (.inr hb)))))))

theorem Eng.blk_ways (hy : LayOk y) (h : Eng y F w p U s L) {w1 : World} (hg : w.grownBy w1 L.vw.ownBlock) : Blk w1 p y.ty (y.cells L U s) :=
  h.blk.fr (Fr.of_grown (M := fun b => L.vw.ownBlock = some b) hg fun _ hk => hk) (own_blk_ne h.ways h.blk hy.t5.symm)
theorem Eng.blk_prints (hy : LayOk y) (h : Eng y F w p U s L) {w1 : World} (hg : w.grownBy w1 L.vp.ownBlock) : Blk w1 p y.ty (y.cells L U s) :=
  h.blk.fr (Fr.of_grown (M := fun b => L.vp.ownBlock = some b) hg fun _ hk => hk) (own_blk_ne h.prints h.blk hy.t4.symm)

/-! ### the program's layout -/
def layP : Lay where
  ty := 83
  cells L U s := #[L.us, .int .i64 U.params, .int .i64 U.regs, .int .i64 U.code, .int .i64 U.spill, L.ub, ownRow L.gr s.regs.length, ownRow L.gc s.kept.length, L.va, L.vp, .int .i64 s.bl, .int .i64 s.pc, .int .i64 s.steps, .int .i64 s.kind, .int .i64 s.val, L.vw, ownRow L.gs s.seen.length]
  iP := 9
  iW := 15
  iA := 8
theorem okP : LayOk layP where
  eq := by intro L U s s' h1 h2 h3 h4 h5 h6 h7 h8; simp only [layP, h1, h2, h3, h4, h5, h6, h7, h8]
  vp := fun _ _ _ _ => rfl
  vw := fun _ _ _ _ => rfl
  va := fun _ _ _ _ _ => rfl
  t1 := by decide
  t2 := by decide
  t3 := by decide
  t4 := by decide
  t5 := by decide
section
variable (h : Eng layP F w p U s L)
include h
theorem P0 : w.cell? ⟨p, 0, none⟩ = some L.us := (h.blk.cell 0).trans rfl
theorem P1 : w.cell? ⟨p, 1, none⟩ = some (.int .i64 U.params) := (h.blk.cell 1).trans rfl
theorem P2 : w.cell? ⟨p, 2, none⟩ = some (.int .i64 U.regs) := (h.blk.cell 2).trans rfl
theorem P3 : w.cell? ⟨p, 3, none⟩ = some (.int .i64 U.code) := (h.blk.cell 3).trans rfl
theorem P4 : w.cell? ⟨p, 4, none⟩ = some (.int .i64 U.spill) := (h.blk.cell 4).trans rfl
theorem P5 : w.cell? ⟨p, 5, none⟩ = some L.ub := (h.blk.cell 5).trans rfl
theorem P6 : w.cell? ⟨p, 6, none⟩ = some (.slice (some ⟨L.gr, 0, none⟩) s.regs.length s.regs.length) := (h.blk.cell 6).trans rfl
theorem P7 : w.cell? ⟨p, 7, none⟩ = some (.slice (some ⟨L.gc, 0, none⟩) s.kept.length s.kept.length) := (h.blk.cell 7).trans rfl
theorem P8 : w.cell? ⟨p, 8, none⟩ = some L.va := (h.blk.cell 8).trans rfl
theorem P9 : w.cell? ⟨p, 9, none⟩ = some L.vp := (h.blk.cell 9).trans rfl
theorem P10 : w.cell? ⟨p, 10, none⟩ = some (.int .i64 s.bl) := (h.blk.cell 10).trans rfl
theorem P11 : w.cell? ⟨p, 11, none⟩ = some (.int .i64 s.pc) := (h.blk.cell 11).trans rfl
theorem P12 : w.cell? ⟨p, 12, none⟩ = some (.int .i64 s.steps) := (h.blk.cell 12).trans rfl
theorem P13 : w.cell? ⟨p, 13, none⟩ = some (.int .i64 s.kind) := (h.blk.cell 13).trans rfl
theorem P14 : w.cell? ⟨p, 14, none⟩ = some (.int .i64 s.val) := (h.blk.cell 14).trans rfl
theorem P15 : w.cell? ⟨p, 15, none⟩ = some L.vw := (h.blk.cell 15).trans rfl
theorem P16 : w.cell? ⟨p, 16, none⟩ = some (.slice (some ⟨L.gs, 0, none⟩) s.seen.length s.seen.length) := (h.blk.cell 16).trans rfl
end
/-! ### what is read of an engine's rows -/
theorem reg_at (s : St) {r : Int} (h0 : 0 ≤ r) (h1 : r < s.regs.length) : s.reg r = s.regs[r.toNat]'(by omega) := by
  unfold St.reg; rw [List.getD_eq_getElem?_getD, List.getElem?_eq_getElem (by omega)]; rfl
section
variable (h : Eng y F w p U s L)
include h
theorem reg0 {r : Int} (h0 : 0 ≤ r) (h1 : r < s.regs.length) : w.cell? ⟨L.gr, r.toNat * 2, none⟩ = some (.int .i64 (s.reg r).1) := by
  rw [h.regs.cell, List.getElem?_toArray, reg_at s h0 h1, valC_0]
theorem reg1 {r : Int} (h0 : 0 ≤ r) (h1 : r < s.regs.length) : w.cell? ⟨L.gr, r.toNat * 2 + 1, none⟩ = some (.int .i64 (s.reg r).2) := by
  rw [h.regs.cell, List.getElem?_toArray, reg_at s h0 h1, valC_1]
theorem kept0 {r : Int} (h0 : 0 ≤ r) (h1 : r < s.kept.length) : w.cell? ⟨L.gc, r.toNat * 2, none⟩ = some (.int .i64 (s.kept.getD r.toNat (0, 0)).1) := by
  rw [h.kept.cell, List.getElem?_toArray, valC_0 s.kept r.toNat (by omega), List.getD_eq_getElem?_getD, List.getElem?_eq_getElem (by omega)]; rfl
theorem kept1 {r : Int} (h0 : 0 ≤ r) (h1 : r < s.kept.length) : w.cell? ⟨L.gc, r.toNat * 2 + 1, none⟩ = some (.int .i64 (s.kept.getD r.toNat (0, 0)).2) := by
  rw [h.kept.cell, List.getElem?_toArray, valC_1 s.kept r.toNat (by omega), List.getD_eq_getElem?_getD, List.getElem?_eq_getElem (by omega)]; rfl
end
end Go.Proofs.YtfkjkdoloamakaaDoor

/- What enter of package run does: the state is St.enter. -/
namespace Go.Proofs.YtfkjkdoloamakaaDoor
open Go.RowKit
variable {F : Nat → Prop} {w0 w : World} {M0 : Nat → Prop} {p : Nat} {U : UnS} {s : St}

theorem int_info : (Tryd.prog.info? 3).map (fun i => (i.zero, i.size, i.bytes)) = some (some (.int .i64 0), 1, 8) := by kernel_rfl
theorem i64_info : (Tryd.prog.info? 2).map (fun i => (i.zero, i.size, i.bytes)) = some (some (.int .i64 0), 1, 8) := by kernel_rfl

theorem cell_new (W : World) (n : Nat) (hn : n = W.heap.size) (x : Value) (t : TypeId) : ∀ j u, [x][j]? = some u → (W.alloc (.cells #[x] t)).cell? ((⟨n, 0, none⟩ : Addr).add j) = some u := by
  intro j u hu
  cases j with
  | zero =>
    simp at hu; subst hu; subst hn
    exact (Blk.new W t #[x]).cell 0
  | succ j => simp at hu
theorem one_mem {x : Value} (h : x.oneCell' = true) : ∀ u ∈ [x], u.oneCell' = true := by
  intro u hu; simp at hu; subst hu; exact h
theorem own_shape {w : World} {base : Nat} {e : TypeId} {size n : Nat} {v : Value} {xs : List Value} (h : w.ownsRow base e size v n xs) : ∃ A c, v = .slice A n c := by
  rcases h.2 with ⟨rfl, rfl⟩ | ⟨g, cap, cur, rfl, _⟩
  · exact ⟨_, _, rfl⟩
  · exact ⟨_, _, rfl⟩
theorem seen0 {y : Lay} {L : EngL} (h : Eng y F w p U s L) {b : Int} (h0 : 0 ≤ b) (h1 : b < s.seen.length) : ∃ x, w.cell? ⟨L.gs, b.toNat * 3, none⟩ = some (.int .i64 x) ∧ s.seen.modify b.toNat (fun y => (wrap64 (x + 1), y.2)) = s.seen.modify b.toNat (fun y => (wrap64 (y.1 + 1), y.2)) := by
  refine ⟨(s.seen[b.toNat]'(by omega)).1, by rw [h.seen.cell, List.getElem?_toArray, cntC_0 s.seen b.toNat (by omega)], ?_⟩
  apply List.ext_getElem (by simp)
  intro i h1 h2
  simp only [List.getElem_modify]
  split
  · rename_i e; subst e; rfl
  · rfl
theorem seen1 {y : Lay} {L : EngL} (h : Eng y F w p U s L) {b : Nat} (h1 : b < s.seen.length) : ∃ x, w.cell? ⟨L.gs, b * 3 + 1, none⟩ = some (.int .i64 x) ∧ s.seen.modify b (fun y => (y.1, wrap64 (x + 1), y.2.2)) = s.seen.modify b (fun y => (y.1, wrap64 (y.2.1 + 1), y.2.2)) := by
  refine ⟨(s.seen[b]).2.1, by rw [h.seen.cell, List.getElem?_toArray, cntC_1 s.seen b h1], ?_⟩
  apply List.ext_getElem (by simp)
  intro i h1 h2
  simp only [List.getElem_modify]
  split
  · rename_i e; subst e; rfl
  · rfl
theorem seen2 {y : Lay} {L : EngL} (h : Eng y F w p U s L) {b : Nat} (h1 : b < s.seen.length) : ∃ x, w.cell? ⟨L.gs, b * 3 + 2, none⟩ = some (.int .i64 x) ∧ s.seen.modify b (fun y => (y.1, y.2.1, wrap64 (x + 1))) = s.seen.modify b (fun y => (y.1, y.2.1, wrap64 (y.2.2 + 1))) := by
  refine ⟨(s.seen[b]).2.2, by rw [h.seen.cell, List.getElem?_toArray, cntC_2 s.seen b h1], ?_⟩
  apply List.ext_getElem (by simp)
  intro i h1 h2
  simp only [List.getElem_modify]
  split
  · rename_i e; subst e; rfl
  · rfl

set_option maxRecDepth 100000 in
set_option maxHeartbeats 1000000 in
theorem enter_any (E : EngX layP F w0 M0 w p U s) (b : Int) (h0 : 0 ≤ b) (h1 : b < s.seen.length) (hw : s.ways.length ≤ 20000) :
    Calls Tryd.prog 97 #[.pointer (some ⟨p, 0, none⟩), .int .i64 b] w fun e w' => e = .returned (.tuple #[]) ∧ EngX layP F w0 M0 w' p U (s.enter b.toNat) := by
  obtain ⟨L, Q⟩ := E
  obtain ⟨A, c, hvw⟩ := own_shape Q.e.ways
  have h10 := P10 Q.e
  have h11 := P11 Q.e
  have h15 := P15 Q.e
  have h16 := P16 Q.e
  rw [hvw] at h15
  have f10 := Q.e.blk.frozen 10
  have f11 := Q.e.blk.frozen 11
  have f15 := Q.e.blk.frozen 15
  have fs := Q.e.seen.frozen (b.toNat * 3)
  obtain ⟨x, hx, hxe⟩ := seen0 Q.e h0 h1
  have hne : p ≠ L.gs := Q.e.blk.ne_ Q.e.seen (by decide)
  have hne' : L.gs ≠ p := hne.symm
  have hcast : ((b.toNat : Nat) : Int) = b := Int.toNat_of_nonneg h0
  -- the engine behind the stores
  have Q1 : EngQ layP F w0 M0 (((w.setCell ⟨p, 10, none⟩ (.int .i64 b)).setCell ⟨p, 11, none⟩ (.int .i64 0)).setCell ⟨L.gs, b.toNat * 3, none⟩ (.int .i64 (wrap64 (x + 1)))) p U { s with bl := b.toNat, pc := 0, seen := s.seen.modify b.toNat (fun y => (wrap64 (y.1 + 1), y.2)) } L := by
    have q1 : EngQ layP F w0 M0 ((w.setCell ⟨p, 10, none⟩ (.int .i64 b)).setCell ⟨p, 11, none⟩ (.int .i64 0)) p U { s with bl := b.toNat, pc := 0 } L :=
      Q.newP okP (Fr.two _ _ _ _ _ _) (by
        have hb := (Q.e.blk.set_ 10 (.int .i64 b)).set_ 11 (.int .i64 0)
        rw [← hcast] at hb ⊢
        exact hb) rfl rfl rfl rfl rfl rfl
    exact q1.newSeen okP _ _ _ (by simp) (by rw [cntC_set0, hxe])
  have hsz : L.gs < w.heap.size := Q.e.seen.lt
  by_cases hn : s.ways.length < 20000
  · obtain ⟨i0, hi, hz0, hz1, hz2⟩ := info_parts int_info
    have HN := Lib.hid (show s.enter b.toNat = { s with bl := b.toNat, pc := 0, seen := s.seen.modify b.toNat (fun y => (wrap64 (y.1 + 1), y.2)), ways := s.ways ++ [(b.toNat : Int)] } by simp only [St.enter, hn, if_true])
    have HC := Lib.hid hcast
    have HV := Lib.hid hvw
    have HQ := Lib.hid Q1
    clear Q1 hxe hcast hvw Q
    go_enter Tryd.func97, Tryd.ntmps97
    go_wp2_with (at_builtin; go_must (refine wpList_append_own_at _ rfl (.tmp 30) (.tmp 32) 22 rfl 0 3 i0 (.int .i64 0) 1 8 Tryd.underlying22 hi hz0 hz1 hz2 rfl (by decide) (.slice A s.ways.length c) s.ways.length (numV s.ways) rfl ?co ⟨w.heap.size, 0, none⟩ 1 1 [.int .i64 b] rfl rfl ?c1 ?c2 ?c3 ?c4 ?c5 ?_; (case co => (rw [← HV.out]; exact ((HQ.out).alloc _).e.ways)); (case c1 => exact cell_new _ _ (by simp) _ _); (case c2 => exact one_mem rfl); (case c3 => (unfold maxLen; omega)); (case c4 => omega); (case c5 => exact Nat.zero_le _); intro v' w1 hown1 hg1 _hx hat1; obtain ⟨A1, c1, rfl⟩ := own_shape hown1; rw [← HV.out] at hg1 hat1; have hp1 := (HQ.out.alloc _).e.blk_ways okP hg1; have c15 : w1.cell? ⟨p, 15, none⟩ = some L.vw := (hp1.cell 15).trans rfl; have f151 := hp1.frozen 15; have HO1 := Lib.hid hown1; have HG1 := Lib.hid hg1; have HA1 := Lib.hid hat1; clear hown1 hg1 hat1 hp1 _hx))
    go_end0
    refine ⟨rfl, ?_⟩
    rw [HN.out]
    have ho : w1.ownsRow 0 3 1 (.slice A1 (s.ways.length + 1) c1) (s.ways ++ [(b.toNat : Int)]).length (numV (s.ways ++ [(b.toNat : Int)])) := by
      have := HO1.out
      rw [HC.out]
      simpa [numV] using this
    refine ((HQ.out.alloc _).newWays okP HG1.out ho ?_).x
    rcases HA1.out with h | h
    · exact .inl h
    · exact .inr ⟨_, h, Nat.le_refl _⟩
  · have HN := Lib.hid (show s.enter b.toNat = { s with bl := b.toNat, pc := 0, seen := s.seen.modify b.toNat (fun y => (wrap64 (y.1 + 1), y.2)) } by simp only [St.enter, hn, if_false])
    have HQ := Lib.hid Q1
    clear Q1 hxe hcast hvw Q
    go_enter Tryd.func97, Tryd.ntmps97
    go_wp2
    go_end0
    rw [HN.out]
    exact ⟨rfl, HQ.out.x⟩
end Go.Proofs.YtfkjkdoloamakaaDoor

/- The table of operations' forms; what of, Read, EndReads and bad compute. -/
namespace Go.Proofs.YtfkjkdoloamakaaDoor
open Go.RowKit
set_option linter.unusedVariables false
variable {F : Nat → Prop} {w0 w : World} {M0 : Nat → Prop} {p : Nat} {U : UnS} {s : St}

def formsL : List (Int × Int × List UInt8) := [(17, 0, [99, 111, 110, 115, 116]), (3, 0, [109, 111, 118, 101]), (7, 0, [97, 100, 100]), (7, 0, [115, 117, 98]), (7, 0, [97, 110, 100]), (7, 0, [111, 114]), (7, 0, [120, 111, 114]), (7, 0, [115, 104, 108]), (7, 0, [115, 104, 114]), (7, 0, [108, 101, 115, 115]), (7, 0, [101, 113, 117, 97, 108]), (15, 0, [112, 105, 99, 107]), (7, 1, [109, 117, 108]), (7, 1, [100, 105, 118]), (7, 1, [114, 101, 109]), (35, 2, [108, 111, 97, 100]), (38, 2, [115, 116, 111, 114, 101]), (65, 2, [102, 101, 116, 99, 104]), (66, 2, [107, 101, 101, 112]), (2, 3, [112, 114, 105, 110, 116]), (130, 3, [101, 120, 105, 116]), (2, 3, [99, 104, 101, 99, 107]), (7, 1, [100, 105, 118, 115]), (7, 1, [114, 101, 109, 115]), (35, 2, [108, 111, 97, 100, 115])]
/-- what a kind uses, its class, its name -/
def usesK (k : Int) : Int := (formsL.getD (k - 1).toNat (0, 0, [])).1
def classK (k : Int) : Int := (formsL.getD (k - 1).toNat (0, 0, [])).2.1
def nameK (k : Int) : ByteArray := ⟨(formsL.getD (k - 1).toNat (0, 0, [])).2.2.toArray⟩
def formC : List (Int × Int × List UInt8) → List Value
  | [] => []
  | (u, c, n) :: r => .int .i64 u :: .int .i64 c :: .string ⟨n.toArray⟩ :: formC r
/-- the table lies where it was laid -/
def Env (w : World) : Prop := w.var? Tryd.prog "bireme/code.forms" = some (formC formsL).toArray
theorem gForms : Tryd.prog.globalNamed "bireme/code.forms" = some 0 := by kernel_rfl
theorem formC_at : ∀ (l : List (Int × Int × List UInt8)) (i : Nat), i < l.length → (formC l)[i * 3]? = some (.int .i64 (l.getD i (0, 0, [])).1) ∧ (formC l)[i * 3 + 1]? = some (.int .i64 (l.getD i (0, 0, [])).2.1) ∧ (formC l)[i * 3 + 2]? = some (.string ⟨(l.getD i (0, 0, [])).2.2.toArray⟩)
  | (u, c, n) :: r, 0, _ => ⟨rfl, rfl, rfl⟩
  | (u, c, n) :: r, i + 1, h => by
    have e0 : (i + 1) * 3 = i * 3 + 1 + 1 + 1 := by omega
    have e1 : (i + 1) * 3 + 1 = i * 3 + 1 + 1 + 1 + 1 := by omega
    have e2 : (i + 1) * 3 + 2 = i * 3 + 2 + 1 + 1 + 1 := by omega
    rw [e2, e0]
    simp only [formC, List.getElem?_cons_succ, List.getD_cons_succ]
    exact formC_at r i (by simpa using h)
theorem env_at {w : World} (V : Env w) {k : Int} (h1 : 1 ≤ k) (h2 : k ≤ 25) : w.cell? ⟨0, (k.toNat - 1) * 3, none⟩ = some (.int .i64 (usesK k)) ∧ w.cell? ⟨0, (k.toNat - 1) * 3 + 1, none⟩ = some (.int .i64 (classK k)) ∧ w.cell? ⟨0, (k.toNat - 1) * 3 + 2, none⟩ = some (.string (nameK k)) := by
  have hl : formsL.length = 25 := rfl
  obtain ⟨a, b, c⟩ := formC_at formsL (k - 1).toNat (by omega)
  have ek : k.toNat - 1 = (k - 1).toNat := by omega
  rw [ek]
  have e := fun i => World.var?_cell gForms V i
  simp only [List.getElem?_toArray] at e
  exact ⟨(e _).trans a, (e _).trans b, (e _).trans c⟩
theorem lt_of_var {P : Program} {W : World} {n : String} {g : Nat} {cs : Array Value} (hg : P.globalNamed n = some g) (h : W.var? P n = some cs) : g < W.heap.size := by
  unfold World.var? at h
  rw [hg] at h
  rcases Nat.lt_or_ge g W.heap.size with h' | h'
  · exact h'
  · simp [Array.getElem?_eq_none h'] at h
theorem Env.fr {M : Nat → Prop} {w w' : World} (V : Env w) (hf : Fr M w w') (hM : ¬ M 0) : Env w' := by
  have hlt := lt_of_var gForms V
  have hb := hf.block _ hlt hM
  unfold Env World.var? at *
  rw [gForms] at V ⊢
  simp only [Option.bind_some] at V ⊢
  rw [hb]; exact V
theorem Env.below {w w' : World} (V : Env w) (hb : Below w.heap.size w w') : Env w' := V.fr (M := fun _ => False) (Fr.of_below hb) not_false

theorem of_any (k : Int) (h1 : 1 ≤ k) (h2 : k ≤ 25) (w : World) (V : Env w) :
    Calls Tryd.prog 111 #[.int .i64 k] w fun e w' => e = .returned (.tuple #[.agg #[.int .i64 (usesK k), .int .i64 (classK k), .string (nameK k)], .bool true]) ∧ Below w.heap.size w w' := by
  obtain ⟨c0, c1, c2⟩ := env_at V h1 h2
  have hlt := lt_of_var gForms V
  obtain ⟨us, hus⟩ : ∃ us, us = usesK k := ⟨_, rfl⟩
  obtain ⟨cs, hcs⟩ : ∃ cs, cs = classK k := ⟨_, rfl⟩
  obtain ⟨nm, hnm⟩ : ∃ nm, nm = nameK k := ⟨_, rfl⟩
  rw [← hus] at c0; rw [← hcs] at c1; rw [← hnm] at c2
  rw [← hus, ← hcs, ← hnm]
  clear hus hcs hnm V
  have hne : w.heap.size ≠ 0 := by omega
  go_enter Tryd.func111, Tryd.ntmps111
  go_wp2
  refine bodyPost_ret (v := .tuple #[.agg #[.int .i64 us, .int .i64 cs, .string nm], .bool true]) (by simp [results, Tryd.results111, go_sem]) rfl ⟨rfl, ?_⟩
  go_grown
theorem of_none (k : Int) (h : k < 1 ∨ 25 < k) (w : World) :
    Calls Tryd.prog 111 #[.int .i64 k] w fun e w' => e = .returned (.tuple #[.agg #[.int .i64 0, .int .i64 0, .string ⟨#[]⟩], .bool false]) ∧ Below w.heap.size w w' := by
  rcases h with h | h
  · go_enter Tryd.func111, Tryd.ntmps111
    go_wp2
    refine bodyPost_ret (v := .tuple #[.agg #[.int .i64 0, .int .i64 0, .string ⟨#[]⟩], .bool false]) (by simp [results, Tryd.results111, go_sem]) rfl ⟨rfl, ?_⟩
    go_grown
  · have h' : ¬ k < 1 := by omega
    go_enter Tryd.func111, Tryd.ntmps111
    go_wp2
    refine bodyPost_ret (v := .tuple #[.agg #[.int .i64 0, .int .i64 0, .string ⟨#[]⟩], .bool false]) (by simp [results, Tryd.results111, go_sem]) rfl ⟨rfl, ?_⟩
    go_grown

theorem blk_new (W : World) {n : Nat} (hn : n = W.heap.size) (t : TypeId) (cs : Array Value) : Blk (W.alloc (.cells cs t)) n t cs := by subst hn; exact Blk.new W t cs
theorem endReads_jump (a t l : Int) (w : World) :
    Calls Tryd.prog 99 #[.agg #[.int .i64 1, .int .i64 a, .int .i64 t, .int .i64 l]] w fun e w' => e = .returned (.slice none 0 0) ∧ Below w.heap.size w w' := by
  go_enter Tryd.func99, Tryd.ntmps99
  go_wp2
  go_ret
  exact ⟨rfl, by go_grown⟩
theorem endReads_other (k a t l : Int) (hk : (k == 1) = false) (w : World) :
    Calls Tryd.prog 99 #[.agg #[.int .i64 k, .int .i64 a, .int .i64 t, .int .i64 l]] w fun e w' => ∃ g, e = .returned (.slice (some ⟨g, 0, none⟩) 1 1) ∧ w.heap.size ≤ g ∧ Blk w' g 3 #[.int .i64 a] ∧ Below w.heap.size w w' := by
  go_enter Tryd.func99, Tryd.ntmps99
  go_wp2
  go_ret
  refine ⟨_, rfl, ?_, ?_, ?_⟩
  · simp
  · exact blk_new _ (by simp) _ _
  · go_grown

/-- the first poison of a list of registers -/
theorem bad_any {L : EngL} (E : Eng layP F w p U s L) (A : Option Addr) (c : Nat) (l : List Int) (hl : 0 < l.length → ∃ g, A = some ⟨g, 0, none⟩ ∧ ∀ j (h : j < l.length), w.cell? ⟨g, j, none⟩ = some (.int .i64 l[j])) (hr : ∀ r ∈ l, 0 ≤ r ∧ r < s.regs.length) (hlen : l.length ≤ 8) :
    Calls Tryd.prog 98 #[.pointer (some ⟨p, 0, none⟩), .slice A l.length c] w fun e w' => e = .returned (.int .i64 (badOf s.regs l)) ∧ w = w' := by
  have h6 := P6 E
  have hb := fun r h0 h1 => reg1 E (r := r) h0 h1
  have HB := Lib.hid hb
  have HL := Lib.hid hl
  have HR := Lib.hid hr
  clear hb hl hr E
  go_enter Tryd.func98, Tryd.ntmps98
  go_wp2
  go_loop [10] (fun i => ∃ k : Nat, k ≤ l.length ∧ i = .int .i64 k ∧ badOf s.regs l = badOf s.regs (l.drop k)) (fun i => l.length - (intOf i).toNat)
  case atStart => exact ⟨0, Nat.zero_le _, rfl, rfl⟩
  case round =>
    obtain ⟨k, hk, rfl, hbd⟩ := hrel
    by_cases hlt : k < l.length
    · obtain ⟨g, hA, hc⟩ := HL.out (by omega)
      have hck := hc k hlt
      obtain ⟨h0, h1⟩ := HR.out l[k] (List.getElem_mem hlt)
      have hbk := HB.out l[k] h0 h1
      rw [List.drop_eq_getElem_cons hlt] at hbd
      obtain ⟨r, hre⟩ : ∃ r, r = l[k] := ⟨_, rfl⟩
      rw [← hre] at hck h0 h1 hbk hbd
      obtain ⟨b, hbe⟩ : ∃ b, b = (s.reg r).2 := ⟨_, rfl⟩
      rw [← hbe] at hbk
      have hs : badOf s.regs (r :: l.drop (k + 1)) = if b ≠ 0 then b else badOf s.regs (l.drop (k + 1)) := by rw [hbe]; rfl
      rw [hs] at hbd
      subst hA
      clear hs hbe hre hc
      by_cases hz : b = 0
      · subst hz
        have HBD := Lib.hid (hbd.trans (if_neg (fun h => h rfl)))
        clear hbd
        go_wp2
        go_round
        case rel => exact ⟨k + 1, by omega, by go_num, HBD.out⟩
        case measure => simp [intOf]; omega
      · have HBD := Lib.hid (hbd.trans (if_pos hz))
        clear hbd
        go_wp2
        go_ret
        exact ⟨by rw [HBD.out]; rfl, rfl⟩
    · have HBD := Lib.hid (show badOf s.regs l = 0 by rw [hbd, List.drop_of_length_le (by omega)]; rfl)
      clear hbd
      go_wp2
      go_ret
      exact ⟨by rw [HBD.out]; rfl, rfl⟩
end Go.Proofs.YtfkjkdoloamakaaDoor
