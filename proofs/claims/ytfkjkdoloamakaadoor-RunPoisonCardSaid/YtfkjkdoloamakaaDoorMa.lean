import Derived.Below
import Derived.Laws.OwnMore
import Derived.Deep.Draws
import Derived.Laws.Rows
import Derived.RowKit
import Derived.Test.YtfkjkdoloamakaaDoorProg
import Derived.WalkKit
import Derived.WalkSpells
import Derived.WalkLawsBesides
import Derived.Handy
import Derived.BigQuiet
import Derived.Deep.QuietTactic
import Derived.Deep.RegionWith
import Derived.Lib.Hide
import Derived.Deep.RegionHeld3
/- Words for the layer of runs: what stays where a set of blocks may be written; a block that is known whole; rows of pairs and of triples as cells. Nothing of the program. -/
namespace Go.Proofs.YtfkjkdoloamakaaDoor
open Go.RowKit

/-- The blocks outside M that were there stand as they stood. -/
structure Fr (M : Nat → Prop) (w w' : World) : Prop where
  os : w'.os = w.os
  tape : w'.tape = w.tape
  output : w'.output = w.output
  size : w.heap.size ≤ w'.heap.size
  block : ∀ b, b < w.heap.size → ¬ M b → w'.heap[b]? = w.heap[b]?

theorem Fr.refl (M : Nat → Prop) (w : World) : Fr M w w := ⟨rfl, rfl, rfl, Nat.le_refl _, fun _ _ _ => rfl⟩
theorem Fr.trans {M M' : Nat → Prop} {a b c : World} (h : Fr M a b) (k : Fr M' b c) (hm : ∀ i, M' i → M i ∨ a.heap.size ≤ i) : Fr M a c :=
  ⟨k.os.trans h.os, k.tape.trans h.tape, k.output.trans h.output, Nat.le_trans h.size k.size, fun i hi hM =>
    (k.block i (Nat.lt_of_lt_of_le hi h.size) (fun h' => (hm i h').elim hM (fun h'' => absurd hi (by omega)))).trans (h.block i hi hM)⟩
theorem Fr.then_ {M : Nat → Prop} {a b c : World} (h : Fr M a b) (k : Fr M b c) : Fr M a c := h.trans k fun _ hi => .inl hi
theorem Fr.mono {M M' : Nat → Prop} {w w' : World} (h : Fr M w w') (hm : ∀ i, M i → M' i) : Fr M' w w' := ⟨h.os, h.tape, h.output, h.size, fun i hi hn => h.block i hi fun h' => hn (hm i h')⟩
theorem Fr.drewN {M : Nat → Prop} {a w : World} (h : Fr M a w) (n : Nat) : Fr M a (w.drewN n) := ⟨h.os, h.tape, h.output, h.size, h.block⟩
theorem Fr.alloc {M : Nat → Prop} {a w : World} (h : Fr M a w) (o : Obj) : Fr M a (w.alloc o) :=
  ⟨h.os, h.tape, h.output, by simp; exact Nat.le_succ_of_le h.size, fun i hi hn => (Below.heap_alloc w o i (Nat.lt_of_lt_of_le hi h.size)).trans (h.block i hi hn)⟩
theorem Fr.setCell {M : Nat → Prop} {a w : World} (h : Fr M a w) {p : Addr} (hp : M p.block ∨ a.heap.size ≤ p.block) (u : Value) : Fr M a (w.setCell p u) :=
  ⟨h.os, h.tape, h.output, by simpa using h.size, fun i hi hn => (Below.heap_setCell w p u i (fun e => by subst e; rcases hp with hp | hp; exact hn hp; omega)).trans (h.block i hi hn)⟩
theorem Fr.below {M : Nat → Prop} {w w' : World} {B : Nat} (h : Fr M w w') (hB : ∀ b, M b → B ≤ b) (hs : B ≤ w.heap.size) : Below B w w' :=
  ⟨h.os, h.tape, h.output, h.size, fun i hi => h.block i (by omega) fun h' => by have := hB i h'; omega⟩
theorem Fr.of_below {M : Nat → Prop} {w w' : World} (h : Below w.heap.size w w') : Fr M w w' := ⟨h.os, h.tape, h.output, h.size, fun i hi _ => h.block i hi⟩
theorem Fr.of_grown {M : Nat → Prop} {w w' : World} {row : Option Nat} (h : w.grownBy w' row) (hr : ∀ k, row = some k → M k) : Fr M w w' :=
  ⟨h.os, h.tape, h.output, h.size, fun i hi hn => h.block i hi fun e => hn (hr i e.symm)⟩
theorem Fr.cell {M : Nat → Prop} {w w' : World} (h : Fr M w w') {a : Addr} {v : Value} (hc : w.cell? a = some v) (hn : ¬ M a.block) : w'.cell? a = some v :=
  (World.cell?_of_block (h.block a.block (World.block_lt_of_cell? w a hc) hn)).trans hc

/-- A block that is known whole. -/
def Blk (w : World) (g : Nat) (t : TypeId) (cs : Array Value) : Prop := w.heap[g]? = some (.cells cs t (0, 0))
section
variable {w w' : World} {g : Nat} {t : TypeId} {cs : Array Value}
theorem Blk.lt (h : Blk w g t cs) : g < w.heap.size := by
  rcases Nat.lt_or_ge g w.heap.size with hlt | hge
  · exact hlt
  · unfold Blk at h; rw [Array.getElem?_eq_none hge] at h; cases h
theorem Blk.cell (h : Blk w g t cs) (i : Nat) : w.cell? ⟨g, i, none⟩ = cs[i]? := cell_of_row w g i cs t (0, 0) h
theorem Blk.frozen (h : Blk w g t cs) (i : Nat) : w.frozen? ⟨g, i, none⟩ = false := by
  unfold Blk at h
  simp [World.frozen?, h]
theorem Blk.new (w : World) (t : TypeId) (cs : Array Value) : Blk (w.alloc (.cells cs t)) w.heap.size t cs := heap_alloc_new w _
theorem Blk.drewN (h : Blk w g t cs) (n : Nat) : Blk (w.drewN n) g t cs := h
theorem Blk.alloc (h : Blk w g t cs) (o : Obj) : Blk (w.alloc o) g t cs := (Below.heap_alloc w o g h.lt).trans h
theorem Blk.set_ (h : Blk w g t cs) (i : Nat) (u : Value) : Blk (w.setCell ⟨g, i, none⟩ u) g t (cs.setIfInBounds i u) := by
  unfold Blk at h ⊢
  simp [World.setCell, Array.getElem?_modify, h]
theorem Blk.far (h : Blk w g t cs) {p : Addr} (hp : g ≠ p.block) (u : Value) : Blk (w.setCell p u) g t cs := (Below.heap_setCell w p u g hp).trans h
theorem Blk.fr {M : Nat → Prop} (h : Blk w g t cs) (hf : Fr M w w') (hg : ¬ M g) : Blk w' g t cs := (hf.block g h.lt hg).trans h
theorem Blk.ne_ {g' : Nat} {t' : TypeId} {cs' : Array Value} (h : Blk w g t cs) (h' : Blk w g' t' cs') (hne : t ≠ t') : g ≠ g' := by
  rintro rfl
  unfold Blk at h h'
  rw [h] at h'
  injection h' with h'
  injection h' with _ ht
  exact hne ht
theorem own_blk_ne {base : Nat} {e : TypeId} {size n : Nat} {v : Value} {xs : List Value} (h : w.ownsRow base e size v n xs) (hg : Blk w g t cs) (hne : e ≠ t) : v.ownBlock ≠ some g := by
  rcases h.2 with ⟨rfl, _⟩ | ⟨g', cap, cur, rfl, _, hh, _⟩
  · simp [Value.ownBlock]
  · intro he
    have : g' = g := by simpa [Value.ownBlock] using he
    subst this
    exact Blk.ne_ (t := e) hh hg hne rfl
end
theorem own_own_ne {w : World} {b b' : Nat} {e e' : TypeId} {s s' n n' : Nat} {v v' : Value} {xs xs' : List Value} (h : w.ownsRow b e s v n xs) (h' : w.ownsRow b' e' s' v' n' xs') (hne : e ≠ e') (k : Nat) (hk : v.ownBlock = some k) : v'.ownBlock ≠ some k := by
  rcases h.2 with ⟨rfl, _⟩ | ⟨g, cap, cur, rfl, _, hh, _⟩
  · simp [Value.ownBlock] at hk
  · have : g = k := by simpa [Value.ownBlock] using hk
    subst this
    exact own_blk_ne (t := e) (cs := cur) h' hh (fun e => hne e.symm)
theorem own_fr {w w' : World} {M : Nat → Prop} {base : Nat} {e : TypeId} {size n : Nat} {v : Value} {xs : List Value} (h : w.ownsRow base e size v n xs) (hf : Fr M w w') (hn : ∀ k, v.ownBlock = some k → ¬ M k) : w'.ownsRow base e size v n xs := by
  obtain ⟨h1, h2⟩ := h
  refine ⟨h1, ?_⟩
  rcases h2 with h2 | ⟨g, cap, cur, rfl, hg, hh, r⟩
  · exact .inl h2
  · exact .inr ⟨g, cap, cur, rfl, hg, (hf.block g (Array.getElem?_eq_some_iff.1 hh).1 (hn g rfl)).trans hh, r⟩
theorem own_far {w : World} {base : Nat} {e : TypeId} {size n : Nat} {v : Value} {xs : List Value} (h : w.ownsRow base e size v n xs) {p : Addr} (hn : v.ownBlock ≠ some p.block) (u : Value) : (w.setCell p u).ownsRow base e size v n xs :=
  own_fr (M := fun b => b = p.block) h (Fr.setCell (M := fun b => b = p.block) (p := p) (Fr.refl _ w) (.inl rfl) u) (fun k hk e => hn (by rw [hk, e]))

/-! ### rows of numbers, of pairs, of triples -/
def numC (l : List Int) : Array Value := (l.map (Value.int .i64)).toArray
def valC : List (Int × Int) → List Value
  | [] => []
  | (a, b) :: r => .int .i64 a :: .int .i64 b :: valC r
def cntC : List (Int × Int × Int) → List Value
  | [] => []
  | (a, b, c) :: r => .int .i64 a :: .int .i64 b :: .int .i64 c :: cntC r

theorem valC_length : ∀ l : List (Int × Int), (valC l).length = l.length * 2
  | [] => rfl
  | (a, b) :: r => by simp [valC, valC_length r]; omega
theorem cntC_length : ∀ l : List (Int × Int × Int), (cntC l).length = l.length * 3
  | [] => rfl
  | (a, b, c) :: r => by simp [cntC, cntC_length r]; omega
theorem valC_0 : ∀ (l : List (Int × Int)) (i : Nat) (h : i < l.length), (valC l)[i * 2]? = some (.int .i64 (l[i]).1)
  | (a, b) :: r, 0, _ => rfl
  | (a, b) :: r, i + 1, h => by
    have e : (i + 1) * 2 = i * 2 + 1 + 1 := by omega
    rw [e]; simp only [valC, List.getElem?_cons_succ, List.getElem_cons_succ]
    exact valC_0 r i (by simpa using h)
theorem valC_1 : ∀ (l : List (Int × Int)) (i : Nat) (h : i < l.length), (valC l)[i * 2 + 1]? = some (.int .i64 (l[i]).2)
  | (a, b) :: r, 0, _ => rfl
  | (a, b) :: r, i + 1, h => by
    have e : (i + 1) * 2 + 1 = i * 2 + 1 + 1 + 1 := by omega
    rw [e]; simp only [valC, List.getElem?_cons_succ, List.getElem_cons_succ]
    exact valC_1 r i (by simpa using h)
theorem valC_set : ∀ (l : List (Int × Int)) (i : Nat) (x : Int × Int), ((valC l).set (i * 2) (.int .i64 x.1)).set (i * 2 + 1) (.int .i64 x.2) = valC (l.set i x)
  | [], i, x => rfl
  | (a, b) :: r, 0, x => rfl
  | (a, b) :: r, i + 1, x => by
    have e : (i + 1) * 2 = i * 2 + 1 + 1 := by omega
    rw [e]; simp only [valC, List.set_cons_succ]
    rw [valC_set r i x]
theorem valC_set0 : ∀ (l : List (Int × Int)) (i : Nat) (x : Int) (_ : i < l.length), (valC l).set (i * 2) (.int .i64 x) = valC (l.set i (x, (l.getD i (0, 0)).2))
  | (a, b) :: r, 0, x, _ => rfl
  | (a, b) :: r, i + 1, x, h => by
    have e : (i + 1) * 2 = i * 2 + 1 + 1 := by omega
    rw [e]; simp only [valC, List.set_cons_succ, List.getD_cons_succ]
    rw [valC_set0 r i x (by simpa using h)]
theorem cntC_0 : ∀ (l : List (Int × Int × Int)) (i : Nat) (h : i < l.length), (cntC l)[i * 3]? = some (.int .i64 (l[i]).1)
  | (a, b, c) :: r, 0, _ => rfl
  | (a, b, c) :: r, i + 1, h => by
    have e : (i + 1) * 3 = i * 3 + 1 + 1 + 1 := by omega
    rw [e]; simp only [cntC, List.getElem?_cons_succ, List.getElem_cons_succ]
    exact cntC_0 r i (by simpa using h)
theorem cntC_1 : ∀ (l : List (Int × Int × Int)) (i : Nat) (h : i < l.length), (cntC l)[i * 3 + 1]? = some (.int .i64 (l[i]).2.1)
  | (a, b, c) :: r, 0, _ => rfl
  | (a, b, c) :: r, i + 1, h => by
    have e : (i + 1) * 3 + 1 = i * 3 + 1 + 1 + 1 + 1 := by omega
    rw [e]; simp only [cntC, List.getElem?_cons_succ, List.getElem_cons_succ]
    exact cntC_1 r i (by simpa using h)
theorem cntC_2 : ∀ (l : List (Int × Int × Int)) (i : Nat) (h : i < l.length), (cntC l)[i * 3 + 2]? = some (.int .i64 (l[i]).2.2)
  | (a, b, c) :: r, 0, _ => rfl
  | (a, b, c) :: r, i + 1, h => by
    have e : (i + 1) * 3 + 2 = i * 3 + 2 + 1 + 1 + 1 := by omega
    rw [e]; simp only [cntC, List.getElem?_cons_succ, List.getElem_cons_succ]
    exact cntC_2 r i (by simpa using h)
theorem cntC_set0 : ∀ (l : List (Int × Int × Int)) (i : Nat) (x : Int), (cntC l).set (i * 3) (.int .i64 x) = cntC (l.modify i fun y => (x, y.2))
  | [], i, x => by simp [cntC]
  | (a, b, c) :: r, 0, x => rfl
  | (a, b, c) :: r, i + 1, x => by
    have e : (i + 1) * 3 = i * 3 + 1 + 1 + 1 := by omega
    rw [e]; simp only [cntC, List.set_cons_succ, List.modify_succ_cons]
    rw [cntC_set0 r i x]
theorem cntC_set1 : ∀ (l : List (Int × Int × Int)) (i : Nat) (x : Int), (cntC l).set (i * 3 + 1) (.int .i64 x) = cntC (l.modify i fun y => (y.1, x, y.2.2))
  | [], i, x => by simp [cntC]
  | (a, b, c) :: r, 0, x => rfl
  | (a, b, c) :: r, i + 1, x => by
    have e : (i + 1) * 3 + 1 = i * 3 + 1 + 1 + 1 + 1 := by omega
    rw [e]; simp only [cntC, List.set_cons_succ, List.modify_succ_cons]
    rw [cntC_set1 r i x]
theorem cntC_set2 : ∀ (l : List (Int × Int × Int)) (i : Nat) (x : Int), (cntC l).set (i * 3 + 2) (.int .i64 x) = cntC (l.modify i fun y => (y.1, y.2.1, x))
  | [], i, x => by simp [cntC]
  | (a, b, c) :: r, 0, x => rfl
  | (a, b, c) :: r, i + 1, x => by
    have e : (i + 1) * 3 + 2 = i * 3 + 2 + 1 + 1 + 1 := by omega
    rw [e]; simp only [cntC, List.set_cons_succ, List.modify_succ_cons]
    rw [cntC_set2 r i x]
end Go.Proofs.YtfkjkdoloamakaaDoor

/- What the functions of package word compute, each by a walk of its own: the closures, plain, divided, table, Math. -/
namespace Go.Proofs.YtfkjkdoloamakaaDoor
open Go.RowKit

theorem eql_fn (f : Fn) (x y : Array Value) (w : World) : (binOp .eql 169 (.func f x y) .nilFunc).run Tryd.prog w = .ok (.bool false) w := by kernel_rfl
theorem eql_nofn (w : World) : (binOp .eql 169 .nilFunc .nilFunc).run Tryd.prog w = .ok (.bool true) w := by kernel_rfl
theorem mk_fn (fn : Fn) (first cap : Array Value) (w : World) : (Instr.makeFunc fn first cap).run Tryd.prog w = .ok (.func fn first cap) w := rfl

theorem wrap64_bv (x : Int) : wrap64 x = (BitVec.ofInt 64 x).toInt := by
  rw [BitVec.toInt_ofInt]; unfold wrap64 Int.bmod; simp only [Nat.reducePow]; simp; split <;> omega
theorem wrap_i64 (x : Int) : IntKind.i64.wrap x = (BitVec.ofInt 64 x).toInt := by
  rw [← wrap64_bv]; simp [IntKind.wrap, IntKind.bits, IntKind.signed, wrap64]; split <;> omega
theorem bits_and_bv (a b : Int) : bits .and .i64 a b = (BitVec.ofInt 64 a &&& BitVec.ofInt 64 b).toInt := by
  show IntKind.i64.wrap ((BitVec.ofInt 64 a &&& BitVec.ofInt 64 b).toNat : Int) = _
  rw [wrap_i64, BitVec.ofInt_natCast, BitVec.ofNat_toNat, BitVec.setWidth_eq]
theorem bits_or_bv (a b : Int) : bits .or .i64 a b = (BitVec.ofInt 64 a ||| BitVec.ofInt 64 b).toInt := by
  show IntKind.i64.wrap ((BitVec.ofInt 64 a ||| BitVec.ofInt 64 b).toNat : Int) = _
  rw [wrap_i64, BitVec.ofInt_natCast, BitVec.ofNat_toNat, BitVec.setWidth_eq]
theorem bits_xor_bv (a b : Int) : bits .xor .i64 a b = (BitVec.ofInt 64 a ^^^ BitVec.ofInt 64 b).toInt := by
  show IntKind.i64.wrap ((BitVec.ofInt 64 a ^^^ BitVec.ofInt 64 b).toNat : Int) = _
  rw [wrap_i64, BitVec.ofInt_natCast, BitVec.ofNat_toNat, BitVec.setWidth_eq]
/-- the low six bits of a number -/
theorem and63 (b : Int) : bits .and .i64 b 63 = b % 64 := by
  rw [bits_and_bv]
  have h : (BitVec.ofInt 64 b &&& BitVec.ofInt 64 63) = BitVec.ofInt 64 (b % 64) := by
    apply BitVec.eq_of_toNat_eq
    rw [BitVec.toNat_and]
    have e : (BitVec.ofInt 64 63).toNat = 2 ^ 6 - 1 := by decide
    rw [e, Nat.and_two_pow_sub_one_eq_mod]
    simp only [BitVec.toNat_ofInt]
    omega
  rw [h, ← wrap64_bv]; unfold wrap64; omega

/-- what an operation makes where it does not trap -/
def un (k a b : Int) : Int :=
  if k = 3 then wrap64 (a + b) else if k = 4 then wrap64 (a - b) else if k = 5 then bits .and .i64 a b else if k = 6 then bits .or .i64 a b
  else if k = 7 then bits .xor .i64 a b else if k = 8 then IntKind.i64.wrap (a * 2 ^ (b % 64).toNat) else if k = 9 then a / 2 ^ (b % 64).toNat
  else if k = 10 then (if a < b then 1 else 0) else if k = 11 then (if a = b then 1 else 0) else if k = 13 then wrap64 (a * b)
  else if k = 14 then wrap64 (a.tdiv b) else a.tmod b

theorem ret_int {k : IntKind} {a b : Int} (h : a = b) : Ending.returned (.int k a) = .returned (.int k b) := by rw [h]

section closures
variable (a b : Int) (w : World)
theorem c1 : Calls Tryd.prog 122 #[.int .i64 a, .int .i64 b] w fun e w' => e = .returned (.int .i64 (un 3 a b)) ∧ w = w' := by
  go_enter Tryd.func122, Tryd.ntmps122
  go_wp2
  go_ret
  exact ⟨rfl, rfl⟩
theorem c2 : Calls Tryd.prog 123 #[.int .i64 a, .int .i64 b] w fun e w' => e = .returned (.int .i64 (un 4 a b)) ∧ w = w' := by
  go_enter Tryd.func123, Tryd.ntmps123
  go_wp2
  go_ret
  exact ⟨rfl, rfl⟩
theorem c3 : Calls Tryd.prog 124 #[.int .i64 a, .int .i64 b] w fun e w' => e = .returned (.int .i64 (un 5 a b)) ∧ w = w' := by
  go_enter Tryd.func124, Tryd.ntmps124
  go_wp2
  go_ret
  exact ⟨rfl, rfl⟩
theorem c4 : Calls Tryd.prog 125 #[.int .i64 a, .int .i64 b] w fun e w' => e = .returned (.int .i64 (un 6 a b)) ∧ w = w' := by
  go_enter Tryd.func125, Tryd.ntmps125
  go_wp2
  go_ret
  exact ⟨rfl, rfl⟩
theorem c5 : Calls Tryd.prog 126 #[.int .i64 a, .int .i64 b] w fun e w' => e = .returned (.int .i64 (un 7 a b)) ∧ w = w' := by
  go_enter Tryd.func126, Tryd.ntmps126
  go_wp2
  go_ret
  exact ⟨rfl, rfl⟩
theorem c6 : Calls Tryd.prog 127 #[.int .i64 a, .int .i64 b] w fun e w' => e = .returned (.int .i64 (un 8 a b)) ∧ w = w' := by
  have h0 : (0 : Int) ≤ bits .and .i64 b 63 := by rw [and63]; omega
  have h1 : (bits .and .i64 b 63).toNat ≤ 64 := by rw [and63]; omega
  have hm : min (bits .and .i64 b 63).toNat 64 = (bits .and .i64 b 63).toNat := by omega
  have hs := shift_shl .i64 .i64 a (bits .and .i64 b 63) h0 (by simp [IntKind.bits]; omega)
  have hq : IntKind.i64.wrap (a * 2 ^ (bits .and .i64 b 63).toNat) = un 8 a b := by rw [and63]; rfl
  rw [hq] at hs
  clear h0 h1 hm hq
  go_enter Tryd.func127, Tryd.ntmps127
  go_wp2
  go_ret
  exact ⟨rfl, rfl⟩
theorem c7 : Calls Tryd.prog 128 #[.int .i64 a, .int .i64 b] w fun e w' => e = .returned (.int .i64 (un 9 a b)) ∧ w = w' := by
  have h0 : (0 : Int) ≤ bits .and .i64 b 63 := by rw [and63]; omega
  have h1 : (bits .and .i64 b 63).toNat ≤ 64 := by rw [and63]; omega
  have hs := shift_shr .i64 .i64 a (bits .and .i64 b 63) h0 (by simp [IntKind.bits]; omega)
  have hq : a / 2 ^ (bits .and .i64 b 63).toNat = un 9 a b := by rw [and63]; rfl
  rw [hq] at hs
  clear h0 h1 hq
  go_enter Tryd.func128, Tryd.ntmps128
  go_wp2
  go_ret
  exact ⟨rfl, rfl⟩
theorem bit_any (t : Bool) : Calls Tryd.prog 130 #[.bool t] w fun e w' => e = .returned (.int .i64 (if t = true then 1 else 0)) ∧ w = w' := by
  cases t
  · go_enter Tryd.func130, Tryd.ntmps130
    go_wp2
    go_ret
    exact ⟨rfl, rfl⟩
  · go_enter Tryd.func130, Tryd.ntmps130
    go_wp2
    go_ret
    exact ⟨rfl, rfl⟩
theorem c8 : Calls Tryd.prog 129 #[.int .i64 a, .int .i64 b] w fun e w' => e = .returned (.int .i64 (un 10 a b)) ∧ w = w' := by
  go_enter Tryd.func129, Tryd.ntmps129
  go_wp2_with (go_at_call 130; refine (bit_any _ _).mono ?_; rintro e w' ⟨rfl, rfl⟩)
  · go_ret; exact ⟨ret_int (by simp [un, h]), rfl⟩
  · go_ret; exact ⟨ret_int (by simp [un]; omega), rfl⟩
theorem c9 : Calls Tryd.prog 131 #[.int .i64 a, .int .i64 b] w fun e w' => e = .returned (.int .i64 (un 11 a b)) ∧ w = w' := by
  go_enter Tryd.func131, Tryd.ntmps131
  go_wp2_with (go_at_call 130; refine (bit_any _ _).mono ?_; rintro e w' ⟨rfl, rfl⟩)
  · go_ret; exact ⟨ret_int (by simp [un]), rfl⟩
  · go_ret; exact ⟨ret_int (by simp [un, h]), rfl⟩
theorem c10 : Calls Tryd.prog 132 #[.int .i64 a, .int .i64 b] w fun e w' => e = .returned (.int .i64 (un 13 a b)) ∧ w = w' := by
  go_enter Tryd.func132, Tryd.ntmps132
  go_wp2
  go_ret
  exact ⟨rfl, rfl⟩
theorem c11 (hb : b ≠ 0) : Calls Tryd.prog 134 #[.int .i64 a, .int .i64 b] w fun e w' => e = .returned (.int .i64 (un 14 a b)) ∧ w = w' := by
  go_enter Tryd.func134, Tryd.ntmps134
  go_wp2
  go_ret
  exact ⟨rfl, rfl⟩
theorem c12 (hb : b ≠ 0) : Calls Tryd.prog 135 #[.int .i64 a, .int .i64 b] w fun e w' => e = .returned (.int .i64 (un 15 a b)) ∧ w = w' := by
  go_enter Tryd.func135, Tryd.ntmps135
  go_wp2
  go_ret
  exact ⟨rfl, rfl⟩
end closures
end Go.Proofs.YtfkjkdoloamakaaDoor

/- What table, plain, divided and Math of package word compute. -/
namespace Go.Proofs.YtfkjkdoloamakaaDoor
open Go.RowKit


theorem plain_any (g : Nat) (w : World) : Calls Tryd.prog 121 #[.func (.func g) #[] #[]] w fun e w' => e = .returned (.func (.func 136) #[] #[.pointer (some ⟨w.heap.size, 0, none⟩)]) ∧ w' = w.alloc (.cells #[.func (.func g) #[] #[]] 181) := by
  have hmf := mk_fn
  go_enter Tryd.func121, Tryd.ntmps121
  go_wp2
  go_ret
  exact ⟨rfl, rfl⟩
theorem divided_any (g : Nat) (w : World) : Calls Tryd.prog 133 #[.func (.func g) #[] #[]] w fun e w' => e = .returned (.func (.func 137) #[] #[.pointer (some ⟨w.heap.size, 0, none⟩)]) ∧ w' = w.alloc (.cells #[.func (.func g) #[] #[]] 181) := by
  have hmf := mk_fn
  go_enter Tryd.func133, Tryd.ntmps133
  go_wp2
  go_ret
  exact ⟨rfl, rfl⟩

/-- table's closure for a kind, and the function in it -/
def tb (k : Int) : Option (Nat × Nat) :=
  if k = 3 then some (136, 122) else if k = 4 then some (136, 123)
  else if k = 5 then some (136, 124) else if k = 6 then some (136, 125)
  else if k = 7 then some (136, 126) else if k = 8 then some (136, 127)
  else if k = 9 then some (136, 128) else if k = 10 then some (136, 129)
  else if k = 11 then some (136, 131) else if k = 13 then some (136, 132)
  else if k = 14 then some (137, 134) else if k = 15 then some (137, 135)
  else none

/-- the closure's value and the world behind table -/
def tbV (k : Int) (w : World) : Value := match tb k with | some (o, _) => .func (.func o) #[] #[.pointer (some ⟨w.heap.size, 0, none⟩)] | none => .nilFunc
def tbW (k : Int) (w : World) : World := match tb k with | some (_, i) => w.alloc (.cells #[.func (.func i) #[] #[]] 181) | none => w

theorem table_any (k : Int) (w : World) : Calls Tryd.prog 116 #[.int .i64 k] w fun e w' => e = .returned (tbV k w) ∧ w' = tbW k w := by
  by_cases h3 : k = 3
  · subst h3
    go_enter Tryd.func116, Tryd.ntmps116
    go_wp2_with (go_at_call 121; refine (plain_any _ _).mono ?_; rintro e w' ⟨rfl, rfl⟩)
    go_ret
    exact ⟨rfl, rfl⟩
  by_cases h4 : k = 4
  · subst h4
    go_enter Tryd.func116, Tryd.ntmps116
    go_wp2_with (go_at_call 121; refine (plain_any _ _).mono ?_; rintro e w' ⟨rfl, rfl⟩)
    go_ret
    exact ⟨rfl, rfl⟩
  by_cases h5 : k = 5
  · subst h5
    go_enter Tryd.func116, Tryd.ntmps116
    go_wp2_with (go_at_call 121; refine (plain_any _ _).mono ?_; rintro e w' ⟨rfl, rfl⟩)
    go_ret
    exact ⟨rfl, rfl⟩
  by_cases h6 : k = 6
  · subst h6
    go_enter Tryd.func116, Tryd.ntmps116
    go_wp2_with (go_at_call 121; refine (plain_any _ _).mono ?_; rintro e w' ⟨rfl, rfl⟩)
    go_ret
    exact ⟨rfl, rfl⟩
  by_cases h7 : k = 7
  · subst h7
    go_enter Tryd.func116, Tryd.ntmps116
    go_wp2_with (go_at_call 121; refine (plain_any _ _).mono ?_; rintro e w' ⟨rfl, rfl⟩)
    go_ret
    exact ⟨rfl, rfl⟩
  by_cases h8 : k = 8
  · subst h8
    go_enter Tryd.func116, Tryd.ntmps116
    go_wp2_with (go_at_call 121; refine (plain_any _ _).mono ?_; rintro e w' ⟨rfl, rfl⟩)
    go_ret
    exact ⟨rfl, rfl⟩
  by_cases h9 : k = 9
  · subst h9
    go_enter Tryd.func116, Tryd.ntmps116
    go_wp2_with (go_at_call 121; refine (plain_any _ _).mono ?_; rintro e w' ⟨rfl, rfl⟩)
    go_ret
    exact ⟨rfl, rfl⟩
  by_cases h10 : k = 10
  · subst h10
    go_enter Tryd.func116, Tryd.ntmps116
    go_wp2_with (go_at_call 121; refine (plain_any _ _).mono ?_; rintro e w' ⟨rfl, rfl⟩)
    go_ret
    exact ⟨rfl, rfl⟩
  by_cases h11 : k = 11
  · subst h11
    go_enter Tryd.func116, Tryd.ntmps116
    go_wp2_with (go_at_call 121; refine (plain_any _ _).mono ?_; rintro e w' ⟨rfl, rfl⟩)
    go_ret
    exact ⟨rfl, rfl⟩
  by_cases h13 : k = 13
  · subst h13
    go_enter Tryd.func116, Tryd.ntmps116
    go_wp2_with (go_at_call 121; refine (plain_any _ _).mono ?_; rintro e w' ⟨rfl, rfl⟩)
    go_ret
    exact ⟨rfl, rfl⟩
  by_cases h14 : k = 14
  · subst h14
    go_enter Tryd.func116, Tryd.ntmps116
    go_wp2_with (go_at_call 133; refine (divided_any _ _).mono ?_; rintro e w' ⟨rfl, rfl⟩)
    go_ret
    exact ⟨rfl, rfl⟩
  by_cases h15 : k = 15
  · subst h15
    go_enter Tryd.func116, Tryd.ntmps116
    go_wp2_with (go_at_call 133; refine (divided_any _ _).mono ?_; rintro e w' ⟨rfl, rfl⟩)
    go_ret
    exact ⟨rfl, rfl⟩
  have hV : tbV k w = .nilFunc := by simp only [tbV, tb, if_neg h3, if_neg h4, if_neg h5, if_neg h6, if_neg h7, if_neg h8, if_neg h9, if_neg h10, if_neg h11, if_neg h13, if_neg h14, if_neg h15]
  have hW : tbW k w = w := by simp only [tbW, tb, if_neg h3, if_neg h4, if_neg h5, if_neg h6, if_neg h7, if_neg h8, if_neg h9, if_neg h10, if_neg h11, if_neg h13, if_neg h14, if_neg h15]
  rw [hV, hW]
  clear hV hW
  go_enter Tryd.func116, Tryd.ntmps116
  go_wp2
  go_ret
  exact ⟨rfl, rfl⟩
end Go.Proofs.YtfkjkdoloamakaaDoor

/- What the closures of plain and divided compute, and Math of package word. -/
namespace Go.Proofs.YtfkjkdoloamakaaDoor
open Go.RowKit

/-- a call of the function g enters it -/
def Ent (g : Nat) : Prop := ∀ (args : Array Value) (w : World), (callFunc g args).run Tryd.prog w = .ok (.enter g args) w
theorem ent_of {f : FuncId} {fn : Func} {c : Code} (hf : Tryd.prog.funcs[f]? = some fn) (hname : (fn.name == "runtime.NumGoroutine") = false) (hb : fn.body = some c) : Ent f := by
  intro args w
  have h1 : fn.name ≠ "runtime.NumGoroutine" := by simpa using hname
  simp [callFunc, hf, h1, hb, mark]

theorem plain1_any (g : Nat) (hent : Ent g) (a b r : Int) (p : Addr) (w : World) (hp : w.cell? p = some (.func (.func g) #[] #[]))
    (hg : ∀ w : World, Calls Tryd.prog g #[.int .i64 a, .int .i64 b] w fun e w' => e = .returned (.int .i64 r) ∧ w = w') :
    Calls Tryd.prog 136 #[.int .i64 a, .int .i64 b, .pointer (some p)] w fun e w' => e = .returned (.tuple #[.int .i64 r, .int .i64 0]) ∧ w = w' := by
  unfold Ent at hent
  have HG := Lib.hid hg
  clear hg
  go_enter Tryd.func136, Tryd.ntmps136
  go_wp2_with (refine (HG.out _).mono ?_; rintro e w' ⟨rfl, rfl⟩)
  go_ret2
  exact ⟨rfl, rfl⟩
theorem one_any (g : Nat) (hent : Ent g) (r : Int) (w : World)
    (hg : ∀ w : World, Calls Tryd.prog g #[.int .i64 (-1), .int .i64 1] w fun e w' => e = .returned (.int .i64 r) ∧ w = w') :
    Calls Tryd.prog 138 #[.func (.func g) #[] #[]] w fun e w' => e = .returned (.int .i64 r) ∧ w = w' := by
  unfold Ent at hent
  have HG := Lib.hid hg
  clear hg
  go_enter Tryd.func138, Tryd.ntmps138
  go_wp2_with (refine (HG.out _).mono ?_; rintro e w' ⟨rfl, rfl⟩)
  go_ret
  exact ⟨rfl, rfl⟩
theorem divided1_zero (a : Int) (p : Addr) (w : World) :
    Calls Tryd.prog 137 #[.int .i64 a, .int .i64 0, .pointer (some p)] w fun e w' => e = .returned (.tuple #[.int .i64 0, .int .i64 (-2)]) ∧ w = w' := by
  go_enter Tryd.func137, Tryd.ntmps137
  go_wp2
  go_ret2
  exact ⟨rfl, rfl⟩
theorem divided1_some (g : Nat) (hent : Ent g) (a b r : Int) (h0 : b ≠ 0) (h1 : b ≠ -1) (p : Addr) (w : World) (hp : w.cell? p = some (.func (.func g) #[] #[]))
    (hg : ∀ w : World, Calls Tryd.prog g #[.int .i64 a, .int .i64 b] w fun e w' => e = .returned (.int .i64 r) ∧ w = w') :
    Calls Tryd.prog 137 #[.int .i64 a, .int .i64 b, .pointer (some p)] w fun e w' => e = .returned (.tuple #[.int .i64 r, .int .i64 0]) ∧ w = w' := by
  unfold Ent at hent
  have HG := Lib.hid hg
  clear hg
  go_enter Tryd.func137, Tryd.ntmps137
  go_wp2_with (refine (HG.out _).mono ?_; rintro e w' ⟨rfl, rfl⟩)
  go_ret2
  exact ⟨rfl, rfl⟩
theorem divided1_neg (g : Nat) (hent : Ent g) (a r s : Int) (p : Addr) (w : World) (hp : w.cell? p = some (.func (.func g) #[] #[]))
    (hg : ∀ w : World, Calls Tryd.prog g #[.int .i64 a, .int .i64 1] w fun e w' => e = .returned (.int .i64 r) ∧ w = w')
    (hf : ∀ w : World, Calls Tryd.prog g #[.int .i64 (-1), .int .i64 1] w fun e w' => e = .returned (.int .i64 s) ∧ w = w') :
    Calls Tryd.prog 137 #[.int .i64 a, .int .i64 (-1), .pointer (some p)] w fun e w' => e = .returned (.tuple #[.int .i64 (wrap64 (r * s)), .int .i64 0]) ∧ ∃ n, w' = w.drewN n := by
  unfold Ent at hent
  have HG := Lib.hid hg
  have HF := Lib.hid hf
  have HE := Lib.hid hent
  clear hg hf
  go_enter Tryd.func137, Tryd.ntmps137
  go_wp2_with (fail)
  go_quiet ((first | (exact Calls.quiet_of_same ((HG.out _).mono fun e w' ⟨h, k⟩ => ⟨h, k.symm⟩)) | (go_at_call 138; exact Calls.quiet_of_same ((one_any _ HE.out _ _ HF.out).mono fun e w' ⟨h, k⟩ => ⟨h, k.symm⟩))))
  go_wp2
  go_ret2
  exact ⟨rfl, ⟨_, rfl⟩⟩
end Go.Proofs.YtfkjkdoloamakaaDoor

/- What Math of package word computes: for every kind and every two numbers. -/
namespace Go.Proofs.YtfkjkdoloamakaaDoor
open Go.RowKit

theorem table_plain (k : Int) (i : Nat) (h : tb k = some (136, i)) (w : World) :
    Calls Tryd.prog 116 #[.int .i64 k] w fun e w' => e = .returned (.func (.func 136) #[] #[.pointer (some ⟨w.heap.size, 0, none⟩)]) ∧ w' = w.alloc (.cells #[.func (.func i) #[] #[]] 181) := by
  have h1 : tbV k w = .func (.func 136) #[] #[.pointer (some ⟨w.heap.size, 0, none⟩)] := by simp only [tbV, h]
  have h2 : tbW k w = w.alloc (.cells #[.func (.func i) #[] #[]] 181) := by simp only [tbW, h]
  rw [← h1, ← h2]; exact table_any k w
theorem table_divided (k : Int) (i : Nat) (h : tb k = some (137, i)) (w : World) :
    Calls Tryd.prog 116 #[.int .i64 k] w fun e w' => e = .returned (.func (.func 137) #[] #[.pointer (some ⟨w.heap.size, 0, none⟩)]) ∧ w' = w.alloc (.cells #[.func (.func i) #[] #[]] 181) := by
  have h1 : tbV k w = .func (.func 137) #[] #[.pointer (some ⟨w.heap.size, 0, none⟩)] := by simp only [tbV, h]
  have h2 : tbW k w = w.alloc (.cells #[.func (.func i) #[] #[]] 181) := by simp only [tbW, h]
  rw [← h1, ← h2]; exact table_any k w
theorem table_none (k : Int) (h : tb k = none) (w : World) :
    Calls Tryd.prog 116 #[.int .i64 k] w fun e w' => e = .returned .nilFunc ∧ w = w' := by
  have h1 : tbV k w = .nilFunc := by simp only [tbV, h]
  have h2 : tbW k w = w := by simp only [tbW, h]
  refine (table_any k w).mono fun e w' h => ?_
  rw [h1, h2] at h; exact ⟨h.1, h.2.symm⟩

/-- a closure that table returns, called: what it answers, and its trap -/
def Inner (o i : Nat) (a b n t : Int) : Prop := ∀ (p : Addr) (w : World), w.cell? p = some (.func (.func i) #[] #[]) →
  Calls Tryd.prog o #[.int .i64 a, .int .i64 b, .pointer (some p)] w fun e w' => e = .returned (.tuple #[.int .i64 n, .int .i64 t]) ∧ ∃ m, w' = w.drewN m

theorem drewN_below {B : Nat} {W w' : World} (h : Below B W w') (n : Nat) : Below B W (w'.drewN n) := ⟨h.os, h.tape, h.output, h.size, h.block⟩

theorem inner_plain (a b r : Int) (i : Nat) (hent : Ent i) (hg : ∀ w : World, Calls Tryd.prog i #[.int .i64 a, .int .i64 b] w fun e w' => e = .returned (.int .i64 r) ∧ w = w') :
    Inner 136 i a b r 0 := fun p w hp => (plain1_any i hent a b r p w hp hg).mono fun _ _ h => ⟨h.1, 0, h.2.symm⟩

/-- whether there is such an operation of two numbers -/
def has2 (k : Int) : Bool := decide (3 ≤ k ∧ k ≤ 11 ∨ 13 ≤ k ∧ k ≤ 15)
/-- whether it can trap -/
def dv (k : Int) : Bool := decide (k = 14 ∨ k = 15)
/-- Math's answers -/
def mN (k a b : Int) : Int := if has2 k then (if dv k = true ∧ b = 0 then 0 else un k a b) else 0
def mT (k b : Int) : Int := if dv k = true ∧ b = 0 then -2 else 0
def mE (k : Int) : Int := if has2 k then 0 else 2

theorem tb_none (k : Int) (h : has2 k = false) : tb k = none := by
  simp only [has2, decide_eq_false_iff_not] at h
  have h3 : k ≠ 3 := by omega
  have h4 : k ≠ 4 := by omega
  have h5 : k ≠ 5 := by omega
  have h6 : k ≠ 6 := by omega
  have h7 : k ≠ 7 := by omega
  have h8 : k ≠ 8 := by omega
  have h9 : k ≠ 9 := by omega
  have h10 : k ≠ 10 := by omega
  have h11 : k ≠ 11 := by omega
  have h13 : k ≠ 13 := by omega
  have h14 : k ≠ 14 := by omega
  have h15 : k ≠ 15 := by omega
  simp only [tb, if_neg h3, if_neg h4, if_neg h5, if_neg h6, if_neg h7, if_neg h8, if_neg h9, if_neg h10, if_neg h11, if_neg h13, if_neg h14, if_neg h15]

theorem un_div_neg (a : Int) : wrap64 (un 14 a 1 * un 14 (-1) 1) = un 14 a (-1) := by
  simp [un]; unfold wrap64; omega
theorem un_rem_neg (a : Int) : wrap64 (un 15 a 1 * un 15 (-1) 1) = un 15 a (-1) := by
  simp [un]; unfold wrap64; omega

theorem un_neg (k a : Int) (hk : k = 14 ∨ k = 15) : wrap64 (un k a 1 * un k (-1) 1) = un k a (-1) := by
  rcases hk with rfl | rfl
  · exact un_div_neg a
  · exact un_rem_neg a

theorem inner_divided (k a b : Int) (i : Nat) (hent : Ent i) (hk : k = 14 ∨ k = 15) (hc : ∀ (a b : Int) (w : World), b ≠ 0 → Calls Tryd.prog i #[.int .i64 a, .int .i64 b] w fun e w' => e = .returned (.int .i64 (un k a b)) ∧ w = w') :
    Inner 137 i a b (mN k a b) (mT k b) := by
  intro p w hp
  have hd : dv k = true := by simp [dv, hk]
  have h2 : has2 k = true := by simp [has2]; omega
  by_cases h0 : b = 0
  · subst h0
    have e1 : mN k a 0 = 0 := by simp [mN, h2, hd]
    have e2 : mT k 0 = -2 := by simp [mT, hd]
    rw [e1, e2]
    exact (divided1_zero a p w).mono fun _ _ h => ⟨h.1, 0, h.2.symm⟩
  · have e1 : mN k a b = un k a b := by simp [mN, h2, h0]
    have e2 : mT k b = 0 := by simp [mT, h0]
    rw [e1, e2]
    by_cases h1 : b = -1
    · subst h1
      have e3 : wrap64 (un k a 1 * un k (-1) 1) = un k a (-1) := un_neg k a hk
      rw [← e3]
      exact divided1_neg i hent a _ _ p w hp (fun w => hc a 1 w (by decide)) (fun w => hc (-1) 1 w (by decide))
    · exact (divided1_some i hent a b _ h0 h1 p w hp (fun w => hc a b w h0)).mono fun _ _ h => ⟨h.1, 0, h.2.symm⟩

end Go.Proofs.YtfkjkdoloamakaaDoor

/- What late and Formed of package word compute. -/
namespace Go.Proofs.YtfkjkdoloamakaaDoor
open Go.RowKit

/-- the kind that traps, for one that leaves poison instead -/
def lateK (k : Int) : Int := if k = 23 then 14 else if k = 24 then 15 else k
def lateB (k : Int) : Bool := decide (k = 23 ∨ k = 24)

theorem ret_ib {a b : Int} {s t : Bool} (h : a = b) (h2 : s = t) : Ending.returned (.tuple #[.int .i64 a, .bool s]) = Ending.returned (.tuple #[.int .i64 b, .bool t]) := by rw [h, h2]
theorem late_any (k : Int) (w : World) : Calls Tryd.prog 115 #[.int .i64 k] w fun e w' => e = .returned (.tuple #[.int .i64 (lateK k), .bool (lateB k)]) ∧ w = w' := by
  by_cases h1 : k = 23
  · subst h1
    go_enter Tryd.func115, Tryd.ntmps115
    go_wp2
    go_ret2
    exact ⟨rfl, rfl⟩
  · by_cases h2 : k = 24
    · subst h2
      go_enter Tryd.func115, Tryd.ntmps115
      go_wp2
      go_ret2
      exact ⟨rfl, rfl⟩
    · go_enter Tryd.func115, Tryd.ntmps115
      go_wp2
      go_ret2
      exact ⟨ret_ib (by simp [lateK, h1, h2]) (by simp [lateB, h1, h2]), rfl⟩

/-- a value: its number and its poison -/
def vl (v : Int × Int) : Value := .agg #[.int .i64 v.1, .int .i64 v.2]
def fm (v : Int × Int) : Bool := v.2 == 0 || v.1 == 0

theorem formed_any (x y : Int) (w : World) : Calls Tryd.prog 117 #[.agg #[.int .i64 x, .int .i64 y]] w fun e w' => e = .returned (.bool (fm (x, y))) ∧ w' = w.alloc (.cells #[.int .i64 x, .int .i64 y] 85) := by
  rcases Bool.eq_false_or_eq_true (y == 0) with hy | hy
  · have hf : fm (x, y) = true := by simp [fm, hy]
    rw [hf]; clear hf
    obtain rfl : y = 0 := by simpa using hy
    go_enter Tryd.func117, Tryd.ntmps117
    go_wp2
    go_ret
    exact ⟨rfl, rfl⟩
  · have hf : fm (x, y) = (x == 0) := by simp [fm, hy]
    rw [hf]; clear hf
    go_enter Tryd.func117, Tryd.ntmps117
    go_wp2
    go_ret
    exact ⟨by simp, rfl⟩
end Go.Proofs.YtfkjkdoloamakaaDoor
