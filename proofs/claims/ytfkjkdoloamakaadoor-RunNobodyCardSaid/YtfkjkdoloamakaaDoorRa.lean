/- Words for the layer of runs: what stays where a set of blocks may be written; a block that is known whole; rows of pairs and of triples as cells. Nothing of the program. -/
import Derived.Below
import Derived.Laws.OwnMore
import Derived.Deep.Draws
import Derived.Laws.Rows
import Derived.RowKit
namespace Go.Proofs.YtfkjkdoloamakaaDoor
open Go.RowKit

/-- The blocks outside M that were there stand as they stood. -/
structure Fr (M : Nat → Prop) (w w' : World) : Prop where
  os : w'.os = w.os
  tape : w'.tape = w.tape
  output : w'.output = w.output
  size : w.heap.size ≤ w'.heap.size
  block : ∀ b, b < w.heap.size → ¬ M b → w'.heap[b]? = w.heap[b]?

theorem Fr.refl (M : Nat → Prop) (w : World) : Fr M w w := ⟨rfl, rfl, rfl, Nat.le_refl _, fun _ _ _ => rfl⟩
theorem Fr.trans {M M' : Nat → Prop} {a b c : World} (h : Fr M a b) (k : Fr M' b c) (hm : ∀ i, M' i → M i ∨ a.heap.size ≤ i) : Fr M a c :=
  ⟨k.os.trans h.os, k.tape.trans h.tape, k.output.trans h.output, Nat.le_trans h.size k.size, fun i hi hM =>
    (k.block i (Nat.lt_of_lt_of_le hi h.size) (fun h' => (hm i h').elim hM (fun h'' => absurd hi (by omega)))).trans (h.block i hi hM)⟩
theorem Fr.then_ {M : Nat → Prop} {a b c : World} (h : Fr M a b) (k : Fr M b c) : Fr M a c := h.trans k fun _ hi => .inl hi
theorem Fr.mono {M M' : Nat → Prop} {w w' : World} (h : Fr M w w') (hm : ∀ i, M i → M' i) : Fr M' w w' := ⟨h.os, h.tape, h.output, h.size, fun i hi hn => h.block i hi fun h' => hn (hm i h')⟩
theorem Fr.drewN {M : Nat → Prop} {a w : World} (h : Fr M a w) (n : Nat) : Fr M a (w.drewN n) := ⟨h.os, h.tape, h.output, h.size, h.block⟩
theorem Fr.alloc {M : Nat → Prop} {a w : World} (h : Fr M a w) (o : Obj) : Fr M a (w.alloc o) :=
  ⟨h.os, h.tape, h.output, by simp; exact Nat.le_succ_of_le h.size, fun i hi hn => (Below.heap_alloc w o i (Nat.lt_of_lt_of_le hi h.size)).trans (h.block i hi hn)⟩
theorem Fr.setCell {M : Nat → Prop} {a w : World} (h : Fr M a w) {p : Addr} (hp : M p.block ∨ a.heap.size ≤ p.block) (u : Value) : Fr M a (w.setCell p u) :=
  ⟨h.os, h.tape, h.output, by simpa using h.size, fun i hi hn => (Below.heap_setCell w p u i (fun e => by subst e; rcases hp with hp | hp; exact hn hp; omega)).trans (h.block i hi hn)⟩
theorem Fr.below {M : Nat → Prop} {w w' : World} {B : Nat} (h : Fr M w w') (hB : ∀ b, M b → B ≤ b) (hs : B ≤ w.heap.size) : Below B w w' :=
  ⟨h.os, h.tape, h.output, h.size, fun i hi => h.block i (by omega) fun h' => by have := hB i h'; omega⟩
theorem Fr.of_below {M : Nat → Prop} {w w' : World} (h : Below w.heap.size w w') : Fr M w w' := ⟨h.os, h.tape, h.output, h.size, fun i hi _ => h.block i hi⟩
theorem Fr.of_grown {M : Nat → Prop} {w w' : World} {row : Option Nat} (h : w.grownBy w' row) (hr : ∀ k, row = some k → M k) : Fr M w w' :=
  ⟨h.os, h.tape, h.output, h.size, fun i hi hn => h.block i hi fun e => hn (hr i e.symm)⟩
theorem Fr.cell {M : Nat → Prop} {w w' : World} (h : Fr M w w') {a : Addr} {v : Value} (hc : w.cell? a = some v) (hn : ¬ M a.block) : w'.cell? a = some v :=
  (World.cell?_of_block (h.block a.block (World.block_lt_of_cell? w a hc) hn)).trans hc

/-- A block that is known whole. -/
def Blk (w : World) (g : Nat) (t : TypeId) (cs : Array Value) : Prop := w.heap[g]? = some (.cells cs t (0, 0))
section
variable {w w' : World} {g : Nat} {t : TypeId} {cs : Array Value}
theorem Blk.lt (h : Blk w g t cs) : g < w.heap.size := by
  rcases Nat.lt_or_ge g w.heap.size with hlt | hge
  · exact hlt
  · unfold Blk at h; rw [Array.getElem?_eq_none hge] at h; cases h
theorem Blk.cell (h : Blk w g t cs) (i : Nat) : w.cell? ⟨g, i, none⟩ = cs[i]? := cell_of_row w g i cs t (0, 0) h
theorem Blk.frozen (h : Blk w g t cs) (i : Nat) : w.frozen? ⟨g, i, none⟩ = false := by
  unfold Blk at h
  simp [World.frozen?, h]
theorem Blk.new (w : World) (t : TypeId) (cs : Array Value) : Blk (w.alloc (.cells cs t)) w.heap.size t cs := heap_alloc_new w _
theorem Blk.drewN (h : Blk w g t cs) (n : Nat) : Blk (w.drewN n) g t cs := h
theorem Blk.alloc (h : Blk w g t cs) (o : Obj) : Blk (w.alloc o) g t cs := (Below.heap_alloc w o g h.lt).trans h
theorem Blk.set_ (h : Blk w g t cs) (i : Nat) (u : Value) : Blk (w.setCell ⟨g, i, none⟩ u) g t (cs.setIfInBounds i u) := by
  unfold Blk at h ⊢
  simp [World.setCell, Array.getElem?_modify, h]
theorem Blk.far (h : Blk w g t cs) {p : Addr} (hp : g ≠ p.block) (u : Value) : Blk (w.setCell p u) g t cs := (Below.heap_setCell w p u g hp).trans h
theorem Blk.fr {M : Nat → Prop} (h : Blk w g t cs) (hf : Fr M w w') (hg : ¬ M g) : Blk w' g t cs := (hf.block g h.lt hg).trans h
theorem Blk.ne_ {g' : Nat} {t' : TypeId} {cs' : Array Value} (h : Blk w g t cs) (h' : Blk w g' t' cs') (hne : t ≠ t') : g ≠ g' := by
  rintro rfl
  unfold Blk at h h'
  rw [h] at h'
  injection h' with h'
  injection h' with _ ht
  exact hne ht
theorem own_blk_ne {base : Nat} {e : TypeId} {size n : Nat} {v : Value} {xs : List Value} (h : w.ownsRow base e size v n xs) (hg : Blk w g t cs) (hne : e ≠ t) : v.ownBlock ≠ some g := by
  rcases h.2 with ⟨rfl, _⟩ | ⟨g', cap, cur, rfl, _, hh, _⟩
  · simp [Value.ownBlock]
  · intro he
    have : g' = g := by simpa [Value.ownBlock] using he
    subst this
    exact Blk.ne_ (t := e) hh hg hne rfl
end
theorem own_own_ne {w : World} {b b' : Nat} {e e' : TypeId} {s s' n n' : Nat} {v v' : Value} {xs xs' : List Value} (h : w.ownsRow b e s v n xs) (h' : w.ownsRow b' e' s' v' n' xs') (hne : e ≠ e') (k : Nat) (hk : v.ownBlock = some k) : v'.ownBlock ≠ some k := by
  rcases h.2 with ⟨rfl, _⟩ | ⟨g, cap, cur, rfl, _, hh, _⟩
  · simp [Value.ownBlock] at hk
  · have : g = k := by simpa [Value.ownBlock] using hk
    subst this
    exact own_blk_ne (t := e) (cs := cur) h' hh (fun e => hne e.symm)
theorem own_fr {w w' : World} {M : Nat → Prop} {base : Nat} {e : TypeId} {size n : Nat} {v : Value} {xs : List Value} (h : w.ownsRow base e size v n xs) (hf : Fr M w w') (hn : ∀ k, v.ownBlock = some k → ¬ M k) : w'.ownsRow base e size v n xs := by
  obtain ⟨h1, h2⟩ := h
  refine ⟨h1, ?_⟩
  rcases h2 with h2 | ⟨g, cap, cur, rfl, hg, hh, r⟩
  · exact .inl h2
  · exact .inr ⟨g, cap, cur, rfl, hg, (hf.block g (Array.getElem?_eq_some_iff.1 hh).1 (hn g rfl)).trans hh, r⟩
theorem own_far {w : World} {base : Nat} {e : TypeId} {size n : Nat} {v : Value} {xs : List Value} (h : w.ownsRow base e size v n xs) {p : Addr} (hn : v.ownBlock ≠ some p.block) (u : Value) : (w.setCell p u).ownsRow base e size v n xs :=
  own_fr (M := fun b => b = p.block) h (Fr.setCell (M := fun b => b = p.block) (p := p) (Fr.refl _ w) (.inl rfl) u) (fun k hk e => hn (by rw [hk, e]))

/-! ### rows of numbers, of pairs, of triples -/
def numC (l : List Int) : Array Value := (l.map (Value.int .i64)).toArray
def valC : List (Int × Int) → List Value
  | [] => []
  | (a, b) :: r => .int .i64 a :: .int .i64 b :: valC r
def cntC : List (Int × Int × Int) → List Value
  | [] => []
  | (a, b, c) :: r => .int .i64 a :: .int .i64 b :: .int .i64 c :: cntC r

theorem valC_length : ∀ l : List (Int × Int), (valC l).length = l.length * 2
  | [] => rfl
  | (a, b) :: r => by simp [valC, valC_length r]; omega
theorem cntC_length : ∀ l : List (Int × Int × Int), (cntC l).length = l.length * 3
  | [] => rfl
  | (a, b, c) :: r => by simp [cntC, cntC_length r]; omega
theorem valC_0 : ∀ (l : List (Int × Int)) (i : Nat) (h : i < l.length), (valC l)[i * 2]? = some (.int .i64 (l[i]).1)
  | (a, b) :: r, 0, _ => rfl
  | (a, b) :: r, i + 1, h => by
    have e : (i + 1) * 2 = i * 2 + 1 + 1 := by omega
    rw [e]; simp only [valC, List.getElem?_cons_succ, List.getElem_cons_succ]
    exact valC_0 r i (by simpa using h)
theorem valC_1 : ∀ (l : List (Int × Int)) (i : Nat) (h : i < l.length), (valC l)[i * 2 + 1]? = some (.int .i64 (l[i]).2)
  | (a, b) :: r, 0, _ => rfl
  | (a, b) :: r, i + 1, h => by
    have e : (i + 1) * 2 + 1 = i * 2 + 1 + 1 + 1 := by omega
    rw [e]; simp only [valC, List.getElem?_cons_succ, List.getElem_cons_succ]
    exact valC_1 r i (by simpa using h)
theorem valC_set : ∀ (l : List (Int × Int)) (i : Nat) (x : Int × Int), ((valC l).set (i * 2) (.int .i64 x.1)).set (i * 2 + 1) (.int .i64 x.2) = valC (l.set i x)
  | [], i, x => rfl
  | (a, b) :: r, 0, x => rfl
  | (a, b) :: r, i + 1, x => by
    have e : (i + 1) * 2 = i * 2 + 1 + 1 := by omega
    rw [e]; simp only [valC, List.set_cons_succ]
    rw [valC_set r i x]
theorem valC_set0 : ∀ (l : List (Int × Int)) (i : Nat) (x : Int) (_ : i < l.length), (valC l).set (i * 2) (.int .i64 x) = valC (l.set i (x, (l.getD i (0, 0)).2))
  | (a, b) :: r, 0, x, _ => rfl
  | (a, b) :: r, i + 1, x, h => by
    have e : (i + 1) * 2 = i * 2 + 1 + 1 := by omega
    rw [e]; simp only [valC, List.set_cons_succ, List.getD_cons_succ]
    rw [valC_set0 r i x (by simpa using h)]
theorem cntC_0 : ∀ (l : List (Int × Int × Int)) (i : Nat) (h : i < l.length), (cntC l)[i * 3]? = some (.int .i64 (l[i]).1)
  | (a, b, c) :: r, 0, _ => rfl
  | (a, b, c) :: r, i + 1, h => by
    have e : (i + 1) * 3 = i * 3 + 1 + 1 + 1 := by omega
    rw [e]; simp only [cntC, List.getElem?_cons_succ, List.getElem_cons_succ]
    exact cntC_0 r i (by simpa using h)
theorem cntC_1 : ∀ (l : List (Int × Int × Int)) (i : Nat) (h : i < l.length), (cntC l)[i * 3 + 1]? = some (.int .i64 (l[i]).2.1)
  | (a, b, c) :: r, 0, _ => rfl
  | (a, b, c) :: r, i + 1, h => by
    have e : (i + 1) * 3 + 1 = i * 3 + 1 + 1 + 1 + 1 := by omega
    rw [e]; simp only [cntC, List.getElem?_cons_succ, List.getElem_cons_succ]
    exact cntC_1 r i (by simpa using h)
theorem cntC_2 : ∀ (l : List (Int × Int × Int)) (i : Nat) (h : i < l.length), (cntC l)[i * 3 + 2]? = some (.int .i64 (l[i]).2.2)
  | (a, b, c) :: r, 0, _ => rfl
  | (a, b, c) :: r, i + 1, h => by
    have e : (i + 1) * 3 + 2 = i * 3 + 2 + 1 + 1 + 1 := by omega
    rw [e]; simp only [cntC, List.getElem?_cons_succ, List.getElem_cons_succ]
    exact cntC_2 r i (by simpa using h)
theorem cntC_set0 : ∀ (l : List (Int × Int × Int)) (i : Nat) (x : Int), (cntC l).set (i * 3) (.int .i64 x) = cntC (l.modify i fun y => (x, y.2))
  | [], i, x => by simp [cntC]
  | (a, b, c) :: r, 0, x => rfl
  | (a, b, c) :: r, i + 1, x => by
    have e : (i + 1) * 3 = i * 3 + 1 + 1 + 1 := by omega
    rw [e]; simp only [cntC, List.set_cons_succ, List.modify_succ_cons]
    rw [cntC_set0 r i x]
theorem cntC_set1 : ∀ (l : List (Int × Int × Int)) (i : Nat) (x : Int), (cntC l).set (i * 3 + 1) (.int .i64 x) = cntC (l.modify i fun y => (y.1, x, y.2.2))
  | [], i, x => by simp [cntC]
  | (a, b, c) :: r, 0, x => rfl
  | (a, b, c) :: r, i + 1, x => by
    have e : (i + 1) * 3 + 1 = i * 3 + 1 + 1 + 1 + 1 := by omega
    rw [e]; simp only [cntC, List.set_cons_succ, List.modify_succ_cons]
    rw [cntC_set1 r i x]
theorem cntC_set2 : ∀ (l : List (Int × Int × Int)) (i : Nat) (x : Int), (cntC l).set (i * 3 + 2) (.int .i64 x) = cntC (l.modify i fun y => (y.1, y.2.1, x))
  | [], i, x => by simp [cntC]
  | (a, b, c) :: r, 0, x => rfl
  | (a, b, c) :: r, i + 1, x => by
    have e : (i + 1) * 3 + 2 = i * 3 + 2 + 1 + 1 + 1 := by omega
    rw [e]; simp only [cntC, List.set_cons_succ, List.modify_succ_cons]
    rw [cntC_set2 r i x]
end Go.Proofs.YtfkjkdoloamakaaDoor
