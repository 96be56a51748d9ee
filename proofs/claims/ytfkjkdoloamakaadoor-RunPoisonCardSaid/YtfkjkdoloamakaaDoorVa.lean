/- A unit whose blocks and registers are moved, and a run of it beside a run of the unit: pure. -/
import Derived.Test.YtfkjkdoloamakaaDoorMg
namespace Go.Proofs.YtfkjkdoloamakaaDoor
open Go.RowKit
set_option linter.unusedVariables false
set_option linter.unusedSimpArgs false

def hasD (k : Int) : Bool := decide (k ≠ 17 ∧ k ≠ 19 ∧ k ≠ 20 ∧ k ≠ 21 ∧ k ≠ 22)
def hasA (k : Int) : Bool := decide (k ≠ 1 ∧ k ≠ 18)
def hasB (k : Int) : Bool := decide ((3 ≤ k ∧ k ≤ 15) ∨ k = 17 ∨ k = 23 ∨ k = 24)
def hasC (k : Int) : Bool := decide (k = 12)
def ixL (l : List Int) (i : Int) : Int := l.getD i.toNat 0
def movO (B R : List Int) (o : OpI) : OpI :=
  ⟨o.k, if hasD o.k then ixL R o.d else o.d, if hasA o.k then ixL R o.a else o.a, if hasB o.k then ixL R o.b else o.b, if hasC o.k then ixL R o.c else o.c, if o.k = 21 then ixL B o.n else o.n, if 0 ≤ o.g then ixL R o.g else o.g⟩
def movE (B R : List Int) (e : EdS) : EdS := ⟨e.k, if e.k ≠ 1 then ixL R e.a else e.a, if e.k = 1 ∨ e.k = 2 then ixL B e.t else e.t, if e.k = 2 then ixL B e.l else e.l⟩
def movB (B R : List Int) (b : BlkS) : BlkS := ⟨b.ops.map (movO B R), movE B R b.ed, if 0 ≤ b.ct then ixL B b.ct else b.ct⟩
/-- an order of the numbers from 0 on -/
structure Ord (l : List Int) (n : Int) : Prop where
  len : (l.length : Int) = n
  rng : ∀ i, inR i n → inR (ixL l i) n
  inj : ∀ i j, inR i n → inR j n → ixL l i = ixL l j → i = j
/-- .. of which those before m stay -/
def Stay (l : List Int) (m : Int) : Prop := ∀ i, inR i m → ixL l i = i
structure Mov (B R : List Int) (U Y : UnS) : Prop where
  r : Ord R U.regs
  rs : Stay R U.params
  b : Ord B U.blocks.length
  b0 : Stay B 1
  sz : Y.sizes = U.sizes
  pa : Y.params = U.params
  re : Y.regs = U.regs
  sp : Y.spill = U.spill
  cd : Y.code = ixL R U.code
  nb : Y.blocks.length = U.blocks.length
  bk : ∀ i, i < U.blocks.length → Y.blocks.getD (ixL B i).toNat dBl = movB B R (U.blocks.getD i dBl)

variable {B R : List Int} {U Y : UnS} {s t : St}

/-- what an operation uses is there -/
structure OpIn (U : UnS) (o : OpI) : Prop where
  d : hasD o.k = true → inR o.d U.regs
  a : hasA o.k = true → inR o.a U.regs
  b : hasB o.k = true → inR o.b U.regs
  c : hasC o.k = true → inR o.c U.regs
  n : o.k = 21 → inR o.n U.blocks.length
theorem kinds25 {P : Int → Prop} (h : ∀ i : Fin 25, P (i.val + 1)) (k : Int) (h1 : 1 ≤ k) (h2 : k ≤ 25) : P k := by
  have := h ⟨(k - 1).toNat, by omega⟩
  simp only at this
  rwa [show (((k - 1).toNat : Nat) : Int) + 1 = k by omega] at this
theorem uses_tab (k : Int) (h1 : 1 ≤ k) (h2 : k ≤ 25) : ((bits .and .i64 (usesK k) 1 ≠ 0 ↔ hasD k = true) ∧ (bits .and .i64 (usesK k) 2 ≠ 0 ↔ hasA k = true) ∧ (bits .and .i64 (usesK k) 4 ≠ 0 ↔ hasB k = true)) ∧ (bits .and .i64 (usesK k) 8 ≠ 0 ↔ hasC k = true) ∧ (bits .and .i64 (usesK k) 128 ≠ 0 ↔ k = 21) ∧ (bits .and .i64 (usesK k) 32 ≠ 0 → k ≠ 21) ∧ (bits .and .i64 (usesK k) 64 ≠ 0 → k ≠ 21) ∧ (bits .and .i64 (usesK k) 240 = 0 → k ≠ 21) := by
  refine kinds25 (P := fun k => ((bits .and .i64 (usesK k) 1 ≠ 0 ↔ hasD k = true) ∧ (bits .and .i64 (usesK k) 2 ≠ 0 ↔ hasA k = true) ∧ (bits .and .i64 (usesK k) 4 ≠ 0 ↔ hasB k = true)) ∧ (bits .and .i64 (usesK k) 8 ≠ 0 ↔ hasC k = true) ∧ (bits .and .i64 (usesK k) 128 ≠ 0 ↔ k = 21) ∧ (bits .and .i64 (usesK k) 32 ≠ 0 → k ≠ 21) ∧ (bits .and .i64 (usesK k) 64 ≠ 0 → k ≠ 21) ∧ (bits .and .i64 (usesK k) 240 = 0 → k ≠ 21)) ?_ k h1 h2
  exact of_decide_eq_true (by kernel_rfl)
theorem OpFine.in_ {o : OpI} (h : OpFine U o) : OpIn U o := by
  obtain ⟨⟨u1, u2, u4⟩, u8, u128, _⟩ := uses_tab o.k h.k1 h.k2
  exact ⟨fun e => h.d.1 (u1.2 e), fun e => h.a.1 (u2.2 e), fun e => h.b.1 (u4.2 e), fun e => h.c.1 (u8.2 e), fun e => h.n3 (u128.2 e)⟩

/-! ### the moved unit is one -/
theorem Mov.opFine (M : Mov B R U Y) {o : OpI} (h : OpFine U o) : OpFine Y (movO B R o) := by
  obtain ⟨⟨u1, u2, u4⟩, u8, u128, u32, u64, u240⟩ := uses_tab o.k h.k1 h.k2
  have use : ∀ {m r : Int} {hs : Bool}, (bits .and .i64 (usesK o.k) m ≠ 0 ↔ hs = true) → useR U (usesK o.k) m r → useR Y (usesK o.k) m (if hs then ixL R r else r) := fun {m r hs} hu hr => by
    refine ⟨fun e => ?_, fun e => ?_⟩
    · rw [if_pos (hu.1 e), M.re]; exact M.r.rng _ (hr.1 e)
    · rw [if_neg (fun h => hu.2 h e)]; exact hr.2 e
  exact
    { k1 := h.k1, k2 := h.k2, d := use u1 h.d, a := use u2 h.a, b := use u4 h.b, c := use u8 h.c
      g := by
        show (if 0 ≤ o.g then ixL R o.g else o.g) = -1 ∨ inR (if 0 ≤ o.g then ixL R o.g else o.g) Y.regs
        rcases h.g with e | e
        · left; rw [e]; rfl
        · right; rw [if_pos e.1, M.re]; exact M.r.rng _ e
      n1 := fun e => by
        have hk := u32 e
        show inR (if o.k = 21 then ixL B o.n else o.n) Y.sizes.length
        rw [if_neg hk, M.sz]; exact h.n1 e
      n2 := fun e => by
        have hk := u64 e
        show inR (if o.k = 21 then ixL B o.n else o.n) Y.spill
        rw [if_neg hk, M.sp]; exact h.n2 e
      n3 := fun e => by
        have hk := u128.1 e
        show inR (if o.k = 21 then ixL B o.n else o.n) Y.blocks.length
        rw [if_pos hk, M.nb]; exact M.b.rng _ (h.n3 e)
      n0 := fun e => by
        have hk := u240 e
        show (if o.k = 21 then ixL B o.n else o.n) = 0
        rw [if_neg hk]; exact h.n0 e }
theorem Mov.edFine (M : Mov B R U Y) {e : EdS} (h : EdFine U e) : EdFine Y (movE B R e) where
  k1 := h.k1
  k2 := h.k2
  a := ⟨fun hk => by have hk' : e.k ≠ 1 := hk; show inR (if e.k ≠ 1 then ixL R e.a else e.a) _; rw [if_pos hk', M.re]; exact M.r.rng _ (h.a.1 hk), fun hk => by show (if e.k ≠ 1 then ixL R e.a else e.a) = 0; rw [if_neg (fun h => h hk)]; exact h.a.2 hk⟩
  t := by
    have k1 := h.k1
    exact ⟨fun hk => by have hk' : e.k ≤ 2 := hk; show inR (if e.k = 1 ∨ e.k = 2 then ixL B e.t else e.t) _; rw [if_pos (by omega), M.nb]; exact M.b.rng _ (h.t.1 hk), fun hk => by have hk' : 2 < e.k := hk; show (if e.k = 1 ∨ e.k = 2 then ixL B e.t else e.t) = 0; rw [if_neg (by omega)]; exact h.t.2 hk⟩
  l := ⟨fun hk => by have hk' : e.k = 2 := hk; show inR (if e.k = 2 then ixL B e.l else e.l) _; rw [if_pos hk', M.nb]; exact M.b.rng _ (h.l.1 hk'), fun hk => by have hk' : e.k ≠ 2 := hk; show (if e.k = 2 then ixL B e.l else e.l) = 0; rw [if_neg hk']; exact h.l.2 hk'⟩
theorem Mov.blFine (M : Mov B R U Y) {b : BlkS} (h : BlFine U b) : BlFine Y (movB B R b) where
  ops := fun o ho => by
    obtain ⟨o', ho', rfl⟩ := List.mem_map.1 ho
    exact M.opFine (h.ops _ ho')
  ed := M.edFine h.ed
  ct := by
    show (if 0 ≤ b.ct then ixL B b.ct else b.ct) = -1 ∨ inR (if 0 ≤ b.ct then ixL B b.ct else b.ct) Y.blocks.length
    rcases h.ct with e | e
    · left; rw [e]; rfl
    · right; rw [if_pos e.1, M.nb]; exact M.b.rng _ e
  len := by show (b.ops.map _).length ≤ 400; rw [List.length_map]; exact h.len

theorem opsSum_perm {l l' : List BlkS} (h : l.Perm l') : opsSum l = opsSum l' := by
  induction h with
  | nil => rfl
  | cons x _ ih => simp only [opsSum, ih]
  | swap x y l => simp only [opsSum]; omega
  | trans _ _ h1 h2 => rw [h1, h2]
theorem opsSum_map (B R : List Int) : ∀ l : List BlkS, opsSum (l.map (movB B R)) = opsSum l
  | [] => rfl
  | b :: r => by
    simp only [List.map_cons, opsSum, opsSum_map B R r]
    show (b.ops.map _).length + _ = _
    rw [List.length_map]
theorem list_range {α : Type} (d : α) (l : List α) : l = (List.range l.length).map fun i => l.getD i d := by
  apply List.ext_getElem
  · simp
  · intro i h1 h2
    simp [List.getD_eq_getElem?_getD, List.getElem?_eq_getElem h1]
theorem nodup_le : ∀ (n : Nat) (l : List Nat), l.Nodup → (∀ x ∈ l, x < n) → l.length ≤ n
  | 0, l, _, h => by
    cases l with
    | nil => exact Nat.le_refl _
    | cons x r => exact absurd (h x (List.mem_cons_self ..)) (Nat.not_lt_zero _)
  | n + 1, l, hd, h => by
    by_cases hm : n ∈ l
    · have p := (List.perm_cons_erase hm).length_eq
      have := nodup_le n (l.erase n) (hd.erase n) fun x hx => by
        have h1 := h x (List.mem_of_mem_erase hx)
        have h2 := (hd.mem_erase_iff.1 hx).1
        omega
      simp only [List.length_cons] at p
      omega
    · have := nodup_le n l hd fun x hx => by
        have h1 := h x hx
        have h2 : x ≠ n := fun e => hm (e ▸ hx)
        omega
      omega
theorem perm_range : ∀ (n : Nat) (l : List Nat), l.Nodup → (∀ x ∈ l, x < n) → l.length = n → l.Perm (List.range n)
  | 0, l, _, _, e => by rw [List.eq_nil_of_length_eq_zero e]; exact List.Perm.refl _
  | n + 1, l, hd, h, e => by
    have hm : n ∈ l := Classical.byContradiction fun hm => by
      have := nodup_le n l hd fun x hx => by
        have h1 := h x hx
        have h2 : x ≠ n := fun e => hm (e ▸ hx)
        omega
      omega
    have p := List.perm_cons_erase hm
    have hl := p.length_eq
    simp only [List.length_cons] at hl
    have ih := perm_range n (l.erase n) (hd.erase n) (fun x hx => by
      have h1 := h x (List.mem_of_mem_erase hx)
      have h2 := (hd.mem_erase_iff.1 hx).1
      omega) (by omega)
    rw [List.range_succ]
    exact (p.trans (ih.cons n)).trans (List.perm_append_singleton n _).symm
theorem Ord.perm {l : List Int} {n : Nat} (h : Ord l n) : ((List.range n).map fun i : Nat => (ixL l i).toNat).Perm (List.range n) := by
  refine perm_range n _ ?_ (fun x hx => ?_) (by simp)
  · refine List.Pairwise.map _ (R := fun a b => a ∈ List.range n ∧ b ∈ List.range n ∧ a ≠ b) ?_ ?_
    · rintro a b ⟨ha, hb, hne⟩ e
      have ha' := List.mem_range.1 ha
      have hb' := List.mem_range.1 hb
      have r1 := h.rng a ⟨by omega, by omega⟩
      have r2 := h.rng b ⟨by omega, by omega⟩
      have e1 := r1.1
      have e2 := r2.1
      have := h.inj a b ⟨by omega, by omega⟩ ⟨by omega, by omega⟩ (by have e' : (ixL l a).toNat = (ixL l b).toNat := e; omega)
      omega
    · exact (List.nodup_range (n := n)).imp_of_mem fun ha hb hne => ⟨ha, hb, hne⟩
  · obtain ⟨i, hi, rfl⟩ := List.mem_map.1 hx
    have hi' := List.mem_range.1 hi
    obtain ⟨r1, r2⟩ := h.rng i ⟨by omega, by omega⟩
    omega
theorem Mov.perm (M : Mov B R U Y) : Y.blocks.Perm (U.blocks.map (movB B R)) := by
  have e1 : U.blocks.map (movB B R) = ((List.range U.blocks.length).map fun i : Nat => (ixL B i).toNat).map fun i => Y.blocks.getD i dBl := by
    rw [List.map_map]
    conv => lhs; rw [list_range dBl U.blocks]
    rw [List.map_map]
    refine List.map_congr_left fun i hi => ?_
    exact (M.bk i (List.mem_range.1 hi)).symm
  rw [e1]
  conv => lhs; rw [list_range dBl Y.blocks, M.nb]
  exact (M.b.perm.map _).symm
theorem Mov.fine (M : Mov B R U Y) (h : UnFine U) : UnFine Y where
  nb := by rw [M.nb]; exact h.nb
  mb := by rw [M.nb]; exact h.mb
  r1 := by rw [M.re]; exact h.r1
  r2 := by rw [M.re]; exact h.r2
  sp := by rw [M.sp]; exact h.sp
  sp2 := by rw [M.sp]; exact h.sp2
  p1 := by rw [M.pa]; exact h.p1
  p2 := by rw [M.pa]; exact h.p2
  p3 := by rw [M.pa, M.re]; exact h.p3
  cd := by rw [M.cd, M.re]; exact M.r.rng _ h.cd
  ns := by rw [M.sz]; exact h.ns
  sz := by rw [M.sz]; exact h.sz
  bls := fun b hb => by
    obtain ⟨b', hb', rfl⟩ := List.mem_map.1 (M.perm.mem_iff.1 hb)
    exact M.blFine (h.bls _ hb')
  sum := by rw [opsSum_perm M.perm, opsSum_map]; exact h.sum
end Go.Proofs.YtfkjkdoloamakaaDoor
