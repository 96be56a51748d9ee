/- The checker of package code: what it says of a right unit, first part: one operation, one end, the sizes. -/
import Derived.Test.YtfkjkdoloamakaaDoorRx
namespace Go.Proofs.YtfkjkdoloamakaaDoor
open Go.RowKit
set_option linter.unusedVariables false
set_option linter.unusedSimpArgs false
variable {w : World} {c : Nat} {U : UnS} {Av Ab : Option Addr} {cv cb : Nat}

/-- a register that a kind uses, or not -/
def useR (U : UnS) (u m r : Int) : Prop := (bits .and .i64 u m ≠ 0 → inR r U.regs) ∧ (bits .and .i64 u m = 0 → r = 0)
structure OpFine (U : UnS) (o : OpI) : Prop where
  k1 : 1 ≤ o.k
  k2 : o.k ≤ 25
  d : useR U (usesK o.k) 1 o.d
  a : useR U (usesK o.k) 2 o.a
  b : useR U (usesK o.k) 4 o.b
  c : useR U (usesK o.k) 8 o.c
  g : o.g = -1 ∨ inR o.g U.regs
  n1 : bits .and .i64 (usesK o.k) 32 ≠ 0 → inR o.n U.sizes.length
  n2 : bits .and .i64 (usesK o.k) 64 ≠ 0 → inR o.n U.spill
  n3 : bits .and .i64 (usesK o.k) 128 ≠ 0 → inR o.n U.blocks.length
  n0 : bits .and .i64 (usesK o.k) 240 = 0 → o.n = 0
structure EdFine (U : UnS) (e : EdS) : Prop where
  k1 : 1 ≤ e.k
  k2 : e.k ≤ 4
  a : (e.k ≠ 1 → inR e.a U.regs) ∧ (e.k = 1 → e.a = 0)
  t : (e.k ≤ 2 → inR e.t U.blocks.length) ∧ (2 < e.k → e.t = 0)
  l : (e.k = 2 → inR e.l U.blocks.length) ∧ (e.k ≠ 2 → e.l = 0)

theorem opf_any (o : OpI) (h : OpFine U o) (K : Ck w c U Av cv Ab cb) (V : Env w) (hz : U.sizes.length ≤ 16) (hbl : U.blocks.length ≤ 2000) :
    Calls Tryd.prog 94 #[.pointer (some ⟨c, 0, none⟩), opV o] w fun x w' => x = .returned (.tuple #[]) ∧ Below w.heap.size w w' := by
  obtain ⟨k, d, a, b, r3, n, g⟩ := o
  obtain ⟨h1, h2, ⟨hd1, hd0⟩, ⟨ha1, ha0⟩, ⟨hb1, hb0⟩, ⟨hc1, hc0⟩, hg, hn1, hn2, hn3, hn0⟩ := h
  simp only at h1 h2 hd1 hd0 ha1 ha0 hb1 hb0 hc1 hc0 hg hn1 hn2 hn3 hn0
  have h' : k = 1 ∨ k = 2 ∨ k = 3 ∨ k = 4 ∨ k = 5 ∨ k = 6 ∨ k = 7 ∨ k = 8 ∨ k = 9 ∨ k = 10 ∨ k = 11 ∨ k = 12 ∨ k = 13 ∨ k = 14 ∨ k = 15 ∨ k = 16 ∨ k = 17 ∨ k = 18 ∨ k = 19 ∨ k = 20 ∨ k = 21 ∨ k = 22 ∨ k = 23 ∨ k = 24 ∨ k = 25 := by omega
  have c17 : usesK k = 17 → Calls Tryd.prog 94 #[.pointer (some ⟨c, 0, none⟩), opV ⟨k, d, a, b, r3, n, g⟩] w fun x w' => x = .returned (.tuple #[]) ∧ Below w.heap.size w w' := by
    intro hu; rw [hu] at hd1 hd0 ha1 ha0 hb1 hb0 hc1 hc0 hn1 hn2 hn3 hn0
    obtain rfl := ha0 (by decide); obtain rfl := hb0 (by decide); obtain rfl := hc0 (by decide)
    exact op_17 k d n g hu h1 h2 (hd1 (by decide)) hg K V hz hbl
  have c3 : usesK k = 3 → Calls Tryd.prog 94 #[.pointer (some ⟨c, 0, none⟩), opV ⟨k, d, a, b, r3, n, g⟩] w fun x w' => x = .returned (.tuple #[]) ∧ Below w.heap.size w w' := by
    intro hu; rw [hu] at hd1 hd0 ha1 ha0 hb1 hb0 hc1 hc0 hn1 hn2 hn3 hn0
    obtain rfl := hb0 (by decide); obtain rfl := hc0 (by decide); obtain rfl := hn0 (by decide)
    exact op_3 k d a g hu h1 h2 (hd1 (by decide)) (ha1 (by decide)) hg K V hz hbl
  have c7 : usesK k = 7 → Calls Tryd.prog 94 #[.pointer (some ⟨c, 0, none⟩), opV ⟨k, d, a, b, r3, n, g⟩] w fun x w' => x = .returned (.tuple #[]) ∧ Below w.heap.size w w' := by
    intro hu; rw [hu] at hd1 hd0 ha1 ha0 hb1 hb0 hc1 hc0 hn1 hn2 hn3 hn0
    obtain rfl := hc0 (by decide); obtain rfl := hn0 (by decide)
    exact op_7 k d a b g hu h1 h2 (hd1 (by decide)) (ha1 (by decide)) (hb1 (by decide)) hg K V hz hbl
  have c15 : usesK k = 15 → Calls Tryd.prog 94 #[.pointer (some ⟨c, 0, none⟩), opV ⟨k, d, a, b, r3, n, g⟩] w fun x w' => x = .returned (.tuple #[]) ∧ Below w.heap.size w w' := by
    intro hu; rw [hu] at hd1 hd0 ha1 ha0 hb1 hb0 hc1 hc0 hn1 hn2 hn3 hn0
    obtain rfl := hn0 (by decide)
    exact op_15 k d a b r3 g hu h1 h2 (hd1 (by decide)) (ha1 (by decide)) (hb1 (by decide)) (hc1 (by decide)) hg K V hz hbl
  have c35 : usesK k = 35 → Calls Tryd.prog 94 #[.pointer (some ⟨c, 0, none⟩), opV ⟨k, d, a, b, r3, n, g⟩] w fun x w' => x = .returned (.tuple #[]) ∧ Below w.heap.size w w' := by
    intro hu; rw [hu] at hd1 hd0 ha1 ha0 hb1 hb0 hc1 hc0 hn1 hn2 hn3 hn0
    obtain rfl := hb0 (by decide); obtain rfl := hc0 (by decide)
    exact op_35 k d a n g hu h1 h2 (hd1 (by decide)) (ha1 (by decide)) (hn1 (by decide)) hg K V hz hbl
  have c38 : usesK k = 38 → Calls Tryd.prog 94 #[.pointer (some ⟨c, 0, none⟩), opV ⟨k, d, a, b, r3, n, g⟩] w fun x w' => x = .returned (.tuple #[]) ∧ Below w.heap.size w w' := by
    intro hu; rw [hu] at hd1 hd0 ha1 ha0 hb1 hb0 hc1 hc0 hn1 hn2 hn3 hn0
    obtain rfl := hd0 (by decide); obtain rfl := hc0 (by decide)
    exact op_38 k a b n g hu h1 h2 (ha1 (by decide)) (hb1 (by decide)) (hn1 (by decide)) hg K V hz hbl
  have c65 : usesK k = 65 → Calls Tryd.prog 94 #[.pointer (some ⟨c, 0, none⟩), opV ⟨k, d, a, b, r3, n, g⟩] w fun x w' => x = .returned (.tuple #[]) ∧ Below w.heap.size w w' := by
    intro hu; rw [hu] at hd1 hd0 ha1 ha0 hb1 hb0 hc1 hc0 hn1 hn2 hn3 hn0
    obtain rfl := ha0 (by decide); obtain rfl := hb0 (by decide); obtain rfl := hc0 (by decide)
    exact op_65 k d n g hu h1 h2 (hd1 (by decide)) (hn2 (by decide)) hg K V hz hbl
  have c66 : usesK k = 66 → Calls Tryd.prog 94 #[.pointer (some ⟨c, 0, none⟩), opV ⟨k, d, a, b, r3, n, g⟩] w fun x w' => x = .returned (.tuple #[]) ∧ Below w.heap.size w w' := by
    intro hu; rw [hu] at hd1 hd0 ha1 ha0 hb1 hb0 hc1 hc0 hn1 hn2 hn3 hn0
    obtain rfl := hd0 (by decide); obtain rfl := hb0 (by decide); obtain rfl := hc0 (by decide)
    exact op_66 k a n g hu h1 h2 (ha1 (by decide)) (hn2 (by decide)) hg K V hz hbl
  have c2 : usesK k = 2 → Calls Tryd.prog 94 #[.pointer (some ⟨c, 0, none⟩), opV ⟨k, d, a, b, r3, n, g⟩] w fun x w' => x = .returned (.tuple #[]) ∧ Below w.heap.size w w' := by
    intro hu; rw [hu] at hd1 hd0 ha1 ha0 hb1 hb0 hc1 hc0 hn1 hn2 hn3 hn0
    obtain rfl := hd0 (by decide); obtain rfl := hb0 (by decide); obtain rfl := hc0 (by decide); obtain rfl := hn0 (by decide)
    exact op_2 k a g hu h1 h2 (ha1 (by decide)) hg K V hz hbl
  have c130 : usesK k = 130 → Calls Tryd.prog 94 #[.pointer (some ⟨c, 0, none⟩), opV ⟨k, d, a, b, r3, n, g⟩] w fun x w' => x = .returned (.tuple #[]) ∧ Below w.heap.size w w' := by
    intro hu; rw [hu] at hd1 hd0 ha1 ha0 hb1 hb0 hc1 hc0 hn1 hn2 hn3 hn0
    obtain rfl := hd0 (by decide); obtain rfl := hb0 (by decide); obtain rfl := hc0 (by decide)
    exact op_130 k a n g hu h1 h2 (ha1 (by decide)) (hn3 (by decide)) hg K V hz hbl
  clear hd1 hd0 ha1 ha0 hb1 hb0 hc1 hc0 hg hn1 hn2 hn3 hn0 K V
  rcases h' with rfl | rfl | rfl | rfl | rfl | rfl | rfl | rfl | rfl | rfl | rfl | rfl | rfl | rfl | rfl | rfl | rfl | rfl | rfl | rfl | rfl | rfl | rfl | rfl | rfl <;> first | exact c7 rfl | exact c17 rfl | exact c3 rfl | exact c15 rfl | exact c35 rfl | exact c38 rfl | exact c65 rfl | exact c66 rfl | exact c2 rfl | exact c130 rfl
theorem edf_any (e : EdS) (h : EdFine U e) (K : Ck w c U Av cv Ab cb) (hbl : U.blocks.length ≤ 2000) :
    Calls Tryd.prog 95 #[.pointer (some ⟨c, 0, none⟩), edV e] w fun x w' => x = .returned (.tuple #[]) ∧ Below w.heap.size w w' := by
  obtain ⟨k, a, t, l⟩ := e
  obtain ⟨h1, h2, ⟨a1, a0⟩, ⟨t1, t0⟩, ⟨l1, l0⟩⟩ := h
  simp only at h1 h2 a1 a0 t1 t0 l1 l0
  have hc : k = 1 ∨ k = 2 ∨ k = 3 ∨ k = 4 := by omega
  rcases hc with rfl | rfl | rfl | rfl
  · obtain rfl := a0 rfl; obtain rfl := l0 (by decide)
    exact end_1 t (t1 (by decide)) K hbl
  · exact end_2 a t l (a1 (by decide)) (t1 (by decide)) (l1 rfl) K hbl
  · obtain rfl := t0 (by decide); obtain rfl := l0 (by decide)
    exact end_3 a (a1 (by decide)) K hbl
  · obtain rfl := t0 (by decide); obtain rfl := l0 (by decide)
    exact end_4 a (a1 (by decide)) K hbl

theorem size_ok (n : Int) (h1 : 1 ≤ n) (h2 : n ≤ 65536) (w : World) : Calls Tryd.prog 93 #[.int .i64 n] w fun x w' => x = .returned (.bool false) ∧ w = w' := by
  have d1 : decide (n < 1) = false := by simp; omega
  have d2 : decide (65536 < n) = false := by simp; omega
  go_enter Tryd.func93, Tryd.ntmps93
  go_wp2
  go_ret
  exact ⟨rfl, rfl⟩
theorem sizes_index (A : Option Addr) (cv : Nat) (l : List Int) (hl : l.length ≤ 16) (h : ∀ n ∈ l, 1 ≤ n ∧ n ≤ 65536) (hc : 0 < l.length → ∃ g o, A = some ⟨g, o, none⟩ ∧ ∀ j (hj : j < l.length), w.cell? ⟨g, o + j, none⟩ = some (.int .i64 l[j])) :
    Calls Tryd.prog 110 #[.slice A l.length cv, .func (.func 93) #[] #[]] w fun x w' => x = .returned (.int .i64 (-1)) ∧ w = w' := by
  have H := Lib.hid h
  have HC := Lib.hid hc
  clear h hc
  go_enter Tryd.func110, Tryd.ntmps110
  go_wp2
  go_loop [8] (fun i => ∃ k : Nat, k ≤ l.length ∧ i = .int .i64 k) (fun i => l.length - (intOf i).toNat)
  case atStart => exact ⟨0, Nat.zero_le _, rfl⟩
  case round =>
    obtain ⟨k, hk, rfl⟩ := hrel
    by_cases hlt : k < l.length
    · obtain ⟨g, o, rfl, hcc⟩ := HC.out (by omega)
      have hck := hcc k hlt
      obtain ⟨b1, b2⟩ := H.out _ (List.getElem_mem hlt)
      obtain ⟨r, hre⟩ : ∃ r, r = l[k] := ⟨_, rfl⟩
      rw [← hre] at hck b1 b2
      clear hcc hre
      go_wp2_with (go_at_call 93; refine (size_ok _ b1 b2 _).mono ?_; rintro x w3 ⟨rfl, rfl⟩)
      go_round
      case rel => exact ⟨k + 1, by omega, by go_num⟩
      case measure => simp [intOf]; omega
    · go_wp2
      go_ret
      exact ⟨rfl, rfl⟩
theorem sizes_ok (A : Option Addr) (cv : Nat) (l : List Int) (hl : l.length ≤ 16) (h : ∀ n ∈ l, 1 ≤ n ∧ n ≤ 65536) (hc : 0 < l.length → ∃ g o, A = some ⟨g, o, none⟩ ∧ ∀ j (hj : j < l.length), w.cell? ⟨g, o + j, none⟩ = some (.int .i64 l[j])) :
    Calls Tryd.prog 92 #[.slice A l.length cv, .func (.func 93) #[] #[]] w fun x w' => x = .returned (.bool false) ∧ w = w' := by
  have H := Lib.hid (sizes_index A cv l hl h hc)
  clear h hc
  go_enter Tryd.func92, Tryd.ntmps92
  go_wp2_with (go_at_call 110; refine H.out.mono ?_; rintro x w3 ⟨rfl, rfl⟩)
  go_ret
  exact ⟨rfl, rfl⟩
end Go.Proofs.YtfkjkdoloamakaaDoor
