/- What a run of a unit is, as a function on lists: the state, one step of it, many steps. Nothing of memory. -/
import Derived.Test.YtfkjkdoloamakaaDoorRa
import Derived.Test.YtfkjkdoloamakaaDoorWj
namespace Go.Proofs.YtfkjkdoloamakaaDoor
open Go.RowKit

structure EdS where
  k : Int
  a : Int
  t : Int
  l : Int
structure BlkS where
  ops : List OpI
  ed : EdS
  ct : Int
structure UnS where
  sizes : List Int
  params : Int
  regs : Int
  code : Int
  spill : Int
  blocks : List BlkS
/-- the state of a run: what registers, Spill cells and arrays hold, what was printed, what is next, how many steps, how it ended (0: it goes on), the ways, the counts -/
structure St where
  regs : List (Int × Int)
  kept : List (Int × Int)
  arrs : List (List Int)
  prints : List Int
  bl : Nat
  pc : Nat
  steps : Int
  kind : Int
  val : Int
  ways : List Int
  seen : List (Int × Int × Int)

def dOp : OpI := ⟨0, 0, 0, 0, 0, 0, 0⟩
def dBl : BlkS := ⟨[], ⟨0, 0, 0, 0⟩, 0⟩
/-- a register's value -/
def St.reg (s : St) (r : Int) : Int × Int := s.regs.getD r.toNat (0, 0)
def St.put (s : St) (r : Int) (v : Int × Int) : St := { s with regs := s.regs.set r.toNat v }
/-- a block is entered -/
def St.enter (s : St) (b : Nat) : St :=
  { s with bl := b, pc := 0, seen := s.seen.modify b (fun y => (wrap64 (y.1 + 1), y.2)), ways := if s.ways.length < 20000 then s.ways ++ [(b : Int)] else s.ways }
/-- a trap -/
def St.trap (U : UnS) (s : St) (n : Int) : St :=
  if (U.blocks.getD s.bl dBl).ct < 0 then { s with kind := 2, val := n } else (s.put U.code (n, 0)).enter (U.blocks.getD s.bl dBl).ct.toNat
/-- the first poison of some registers, or 0 -/
def badOf (regs : List (Int × Int)) : List Int → Int
  | [] => 0
  | r :: l => if (regs.getD r.toNat (0, 0)).2 ≠ 0 then (regs.getD r.toNat (0, 0)).2 else badOf regs l
/-- the registers that an operation on an array reads -/
def readsArr (o : OpI) : List Int := if o.k = 17 then [o.a, o.b] else [o.a]
def St.arr (s : St) (n : Int) : List Int := s.arrs.getD n.toNat []
/-- the poison or the trap's number with which an array is asked -/
def elemT (s : St) (o : OpI) : Int :=
  if badOf s.regs (readsArr o) ≠ 0 then badOf s.regs (readsArr o) else if (s.reg o.a).1 < 0 ∨ ((s.arr o.n).length : Int) ≤ (s.reg o.a).1 then -1 else 0
/-- what an operation that word does not know does: the state, the trap's number, whether the block is left -/
def St.act (s : St) (o : OpI) : St × Int × Bool :=
  if o.k = 18 then (s.put o.d (s.kept.getD o.n.toNat (0, 0)), 0, false)
  else if o.k = 19 then ({ s with kept := s.kept.set o.n.toNat (s.reg o.a) }, 0, false)
  else if o.k = 16 ∨ o.k = 25 ∨ o.k = 17 then
    (if elemT s o ≠ 0 ∧ o.k = 25 then (s.put o.d (0, elemT s o), 0, false)
     else if elemT s o ≠ 0 then (s, elemT s o, false)
     else if o.k = 17 then ({ s with arrs := s.arrs.modify o.n.toNat (fun l => l.set (s.reg o.a).1.toNat (s.reg o.b).1) }, 0, false)
     else (s.put o.d ((s.arr o.n).getD (s.reg o.a).1.toNat 0, 0), 0, false))
  else if (s.reg o.a).2 ≠ 0 then (s, (s.reg o.a).2, false)
  else if o.k = 20 then ({ s with prints := s.prints ++ [(s.reg o.a).1] }, 0, false)
  else if o.k = 21 ∧ (s.reg o.a).1 ≠ 0 then (s.enter o.n.toNat, 0, true)
  else (s, 0, false)
/-- what an operation does -/
def St.doR (s : St) (o : OpI) : St × Int × Bool :=
  if o.g ≠ -1 ∧ (s.reg o.g).2 ≠ 0 then (s, (s.reg o.g).2, false)
  else if o.g ≠ -1 ∧ (s.reg o.g).1 = 0 then (s, 0, false)
  else if known o.k = true then
    (if doT0 o.k (s.reg o.a) (s.reg o.b) ≠ 0 then (s, doT0 o.k (s.reg o.a) (s.reg o.b), false)
     else (s.put o.d (doV0 o.k o.n (s.reg o.a) (s.reg o.b) (s.reg o.c)), 0, false))
  else s.act o
/-- what the end of a block does -/
def St.leave (U : UnS) (s : St) (x : EdS) : St :=
  if x.k ≠ 1 ∧ (s.reg x.a).2 ≠ 0 then s.trap U (s.reg x.a).2
  else if x.k = 4 then s.trap U (s.reg x.a).1
  else if x.k = 3 then { s with kind := 1, val := (s.reg x.a).1 }
  else if x.k = 1 ∨ (s.reg x.a).1 ≠ 0 then ({ s with seen := s.seen.modify s.bl (fun y => (y.1, wrap64 (y.2.1 + 1), y.2.2)) }).enter x.t.toNat
  else ({ s with seen := s.seen.modify s.bl (fun y => (y.1, y.2.1, wrap64 (y.2.2 + 1))) }).enter x.l.toNat
/-- one step -/
def St.step (U : UnS) (s : St) : St :=
  let b := U.blocks.getD s.bl dBl
  let s1 : St := { s with steps := s.steps + 1 }
  if s.pc = b.ops.length then s1.leave U b.ed
  else
    let r := s1.doR (b.ops.getD s.pc dOp)
    if r.2.1 ≠ 0 then r.1.trap U r.2.1 else if r.2.2 then r.1 else { r.1 with pc := r.1.pc + 1 }
/-- at most so many steps -/
def St.run (U : UnS) : Nat → St → St
  | 0, s => s
  | n + 1, s => if s.kind = 0 then St.run U n (s.step U) else s
/-- the state in which a run of a unit begins -/
def St.init (U : UnS) (args : List Int) : St :=
  St.enter { regs := args.map (fun x => (x, 0)) ++ List.replicate (U.regs.toNat - args.length) (0, 0), kept := List.replicate U.spill.toNat (0, 0), arrs := U.sizes.map fun n => List.replicate n.toNat 0, prints := [], bl := 0, pc := 0, steps := 0, kind := 0, val := 0, ways := [], seen := List.replicate U.blocks.length (0, 0, 0) } 0

/-! ### units that are units -/
def inR (n k : Int) : Prop := 0 ≤ n ∧ n < k
structure OpGood (U : UnS) (o : OpI) : Prop where
  k1 : 1 ≤ o.k
  k2 : o.k ≤ 25
  d : inR o.d U.regs
  a : inR o.a U.regs
  b : inR o.b U.regs
  c : inR o.c U.regs
  g : o.g = -1 ∨ inR o.g U.regs
  arr : (o.k = 16 ∨ o.k = 17 ∨ o.k = 25) → inR o.n U.sizes.length
  cell : (o.k = 18 ∨ o.k = 19) → inR o.n U.spill
  exit : o.k = 21 → inR o.n U.blocks.length
structure EdGood (U : UnS) (e : EdS) : Prop where
  k1 : 1 ≤ e.k
  k2 : e.k ≤ 4
  a : inR e.a U.regs
  t : e.k = 1 ∨ e.k = 2 → inR e.t U.blocks.length
  l : e.k = 2 → inR e.l U.blocks.length
structure BlGood (U : UnS) (b : BlkS) : Prop where
  ops : ∀ o ∈ b.ops, OpGood U o
  ed : EdGood U b.ed
  ct : b.ct = -1 ∨ inR b.ct U.blocks.length
  len : b.ops.length ≤ 400
structure UnGood (U : UnS) : Prop where
  nb : 0 < U.blocks.length
  mb : U.blocks.length ≤ 2000
  r1 : 1 ≤ U.regs
  r2 : U.regs ≤ 4096
  sp : 0 ≤ U.spill
  sp2 : U.spill ≤ 4096
  par : 0 ≤ U.params ∧ U.params ≤ 8 ∧ U.params ≤ U.regs
  cd : inR U.code U.regs
  ns : U.sizes.length ≤ 16
  sz : ∀ n ∈ U.sizes, 1 ≤ n ∧ n ≤ 65536
  bls : ∀ b ∈ U.blocks, BlGood U b

/-- a state that fits its unit -/
structure StGood (U : UnS) (s : St) : Prop where
  regs : (s.regs.length : Int) = U.regs
  kept : (s.kept.length : Int) = U.spill
  arrs : s.arrs.length = U.sizes.length
  alen : ∀ l ∈ s.arrs, l.length ≤ 65536
  seen : s.seen.length = U.blocks.length
  bl : s.bl < U.blocks.length
  pc : s.pc ≤ (U.blocks.getD s.bl dBl).ops.length
  st0 : 0 ≤ s.steps
  st1 : s.steps ≤ 1000000000000
  pr : (s.prints.length : Int) ≤ s.steps
  ways : s.ways.length ≤ 20000
  form : ∀ v ∈ s.regs, fm v = true
  form2 : ∀ v ∈ s.kept, fm v = true
end Go.Proofs.YtfkjkdoloamakaaDoor
