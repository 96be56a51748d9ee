/- The example that every law ends with: alive answers true. -/
import Derived.Test.YtfkjkdoloamakaaDoorQi
namespace Go.Proofs.YtfkjkdoloamakaaDoor
open Go.RowKit
set_option linter.unusedVariables false
set_option linter.unusedSimpArgs false
variable {w : World}

def aliveU : UnS := ⟨[], 2, 3, 0, 0, [⟨[⟨23, 2, 0, 1, 0, 0, -1⟩, ⟨20, 0, 2, 0, 0, 0, -1⟩], ⟨3, 1, 0, 0⟩, -1⟩]⟩
theorem alive1 : kindO (St.run aliveU (100 : Int).toNat (St.init aliveU [1, 0])).kind = 2 ∧ (St.run aliveU (100 : Int).toNat (St.init aliveU [1, 0])).val = -2 ∧ (St.run aliveU (100 : Int).toNat (St.init aliveU [1, 0])).steps = 2 ∧ (St.run aliveU (100 : Int).toNat (St.init aliveU [1, 0])).prints = [] := of_decide_eq_true (by kernel_rfl)
theorem alive2 : kindO (St.run aliveU (100 : Int).toNat (St.init aliveU [6, 2])).kind = 1 ∧ (St.run aliveU (100 : Int).toNat (St.init aliveU [6, 2])).val = 2 ∧ (St.run aliveU (100 : Int).toNat (St.init aliveU [6, 2])).steps = 3 ∧ (St.run aliveU (100 : Int).toNat (St.init aliveU [6, 2])).prints = [3] := of_decide_eq_true (by kernel_rfl)
theorem useR_in {U : UnS} {u m r : Int} (h : bits .and .i64 u m ≠ 0) (hr : inR r U.regs) : useR U u m r := ⟨fun _ => hr, fun e => absurd e h⟩
theorem useR_no {U : UnS} {u m r : Int} (h : bits .and .i64 u m = 0) (hr : r = 0) : useR U u m r := ⟨fun e => absurd h e, fun _ => hr⟩
theorem alive_fine : UnFine aliveU where
  nb := by decide
  mb := by decide
  r1 := by decide
  r2 := by decide
  sp := by decide
  sp2 := by decide
  p1 := by decide
  p2 := by decide
  p3 := by decide
  cd := by unfold inR; decide
  ns := by decide
  sz := fun n hn => by simp [aliveU] at hn
  bls := fun b hb => by
    simp only [aliveU, List.mem_singleton] at hb
    subst hb
    exact
      { ops := fun o ho => by
          simp only [List.mem_cons, List.not_mem_nil, or_false] at ho
          rcases ho with rfl | rfl
          · exact { k1 := by decide, k2 := by decide, d := useR_in (by decide) (by unfold inR; decide), a := useR_in (by decide) (by unfold inR; decide), b := useR_in (by decide) (by unfold inR; decide), c := useR_no (by decide) rfl, g := .inl rfl, n1 := fun h => absurd (by decide) h, n2 := fun h => absurd (by decide) h, n3 := fun h => absurd (by decide) h, n0 := fun _ => rfl }
          · exact { k1 := by decide, k2 := by decide, d := useR_no (by decide) rfl, a := useR_in (by decide) (by unfold inR; decide), b := useR_no (by decide) rfl, c := useR_no (by decide) rfl, g := .inl rfl, n1 := fun h => absurd (by decide) h, n2 := fun h => absurd (by decide) h, n3 := fun h => absurd (by decide) h, n0 := fun _ => rfl }
        ed := { k1 := by decide, k2 := by decide, a := ⟨fun _ => by unfold inR; decide, fun h => absurd h (by decide)⟩, t := ⟨fun h => absurd h (by decide), fun _ => rfl⟩, l := ⟨fun h => absurd h (by decide), fun _ => rfl⟩ }
        ct := .inl rfl
        len := by decide }
  sum := by decide
theorem op_fine_good {U : UnS} (h1 : 1 ≤ U.regs) {o : OpI} (h : OpFine U o) : OpGood U o := by
  have hz : inR 0 U.regs := ⟨Int.le_refl _, by omega⟩
  have use : ∀ {u m r : Int}, useR U u m r → inR r U.regs := fun {u m r} hu => by
    by_cases hb : bits .and .i64 u m = 0
    · rw [hu.2 hb]; exact hz
    · exact hu.1 hb
  obtain ⟨k, d, a, b, c, n, g⟩ := o
  exact
    { k1 := h.k1, k2 := h.k2, d := use h.d, a := use h.a, b := use h.b, c := use h.c, g := h.g,
      arr := fun hk => h.n1 (by simp only at hk ⊢; rcases hk with rfl | rfl | rfl <;> decide)
      cell := fun hk => h.n2 (by simp only at hk ⊢; rcases hk with rfl | rfl <;> decide)
      exit := fun hk => h.n3 (by simp only at hk ⊢; subst hk; decide) }
theorem ed_fine_good {U : UnS} (h1 : 1 ≤ U.regs) {e : EdS} (h : EdFine U e) : EdGood U e where
  k1 := h.k1
  k2 := h.k2
  a := by
    by_cases hk : e.k = 1
    · rw [h.a.2 hk]; exact ⟨Int.le_refl _, by omega⟩
    · exact h.a.1 hk
  t := fun hk => h.t.1 (by omega)
  l := fun hk => h.l.1 hk
theorem fine_good {U : UnS} (h : UnFine U) : UnGood U where
  nb := h.nb
  mb := h.mb
  r1 := h.r1
  r2 := h.r2
  sp := h.sp
  sp2 := h.sp2
  par := ⟨h.p1, h.p2, h.p3⟩
  cd := h.cd
  ns := h.ns
  sz := h.sz
  bls := fun b hb => ⟨fun o ho => op_fine_good h.r1 ((h.bls b hb).ops o ho), ed_fine_good h.r1 (h.bls b hb).ed, (h.bls b hb).ct, (h.bls b hb).len⟩
theorem ck_fine {U : UnS} {F : Nat → Prop} {Av Ab : Option Addr} {cv cb : Nat} (h : UnFine U) (hu : UnIn F w U Av cv Ab cb) (V : Env w) : CkSays w U Av cv Ab cb 0 := fun W hb =>
  check_ok h (hu.below hb).hs (hu.below hb).hr (hu.below hb).hF (V.below hb)

theorem row_blk {W : World} {g n size : Nat} {t : TypeId} {xs : List Value} (h : Blk W g t xs.toArray) (hl : xs.length = n * size) (hn : n ≤ maxLen) : Row (fun b => b < W.heap.size) W (.slice (some ⟨g, 0, none⟩) n n) n size xs :=
  ⟨hl, _, _, rfl, Nat.le_refl _, hn, fun _ => ⟨g, 0, rfl, h.lt, h.lt, fun j u hu => by rw [Nat.zero_add, h.cell, List.getElem?_toArray]; exact hu⟩⟩
theorem alive_in {W : World} {g : Nat} (h1 : Blk W g 76 (opsC [⟨23, 2, 0, 1, 0, 0, -1⟩, ⟨20, 0, 2, 0, 0, 0, -1⟩]).toArray) (h2 : Blk W (g + 1) 73 #[.slice (some ⟨g, 0, none⟩) 2 2, .int .i64 3, .int .i64 1, .int .i64 0, .int .i64 0, .int .i64 (-1)]) : UnIn (fun b => b < W.heap.size) W aliveU none 0 (some ⟨g + 1, 0, none⟩) 1 := by
  refine ⟨⟨rfl, none, 0, rfl, Nat.le_refl _, by unfold maxLen; omega, fun h => absurd h (by decide)⟩, ⟨[.slice (some ⟨g, 0, none⟩) 2 2], rfl, ?_, fun i hi => ?_⟩, fun _ h => h⟩
  · exact row_blk (n := 1) (size := 6) h2 rfl (by unfold maxLen; omega)
  · have : i = 0 := by simp [aliveU] at hi; exact hi
    subst this
    exact row_blk (n := 2) (size := 7) h1 rfl (by unfold maxLen; omega)
theorem Blk.below {w' : World} {g : Nat} {t : TypeId} {cs : Array Value} (h : Blk w g t cs) (hb : Below w.heap.size w w') : Blk w' g t cs := h.fr (M := fun _ => False) (Fr.of_below hb) not_false

set_option maxRecDepth 100000 in
set_option maxHeartbeats 1000000 in
theorem alive_true (V : Env w) : Calls Tryd.prog 16 #[] w fun x w' => x = .returned (.bool true) ∧ Below w.heap.size w w' := by
  obtain ⟨W, hW⟩ : ∃ W, W = ((w.alloc (.cells (opsC [⟨23, 2, 0, 1, 0, 0, -1⟩, ⟨20, 0, 2, 0, 0, 0, -1⟩]).toArray 76)).alloc (.cells #[.slice (some ⟨w.heap.size, 0, none⟩) 2 2, .int .i64 3, .int .i64 1, .int .i64 0, .int .i64 0, .int .i64 (-1)] 73)).alloc (.cells #[.slice none 0 0, .int .i64 2, .int .i64 3, .int .i64 0, .int .i64 0, .slice (some ⟨w.heap.size + 1, 0, none⟩) 1 1] 25) := ⟨_, rfl⟩
  have hb0 : Below w.heap.size w W := by rw [hW]; exact (((Below.refl _ _).alloc (Nat.le_refl _) _).alloc (by simp) _).alloc (by simp; omega) _
  have b1 : Blk W w.heap.size 76 (opsC [⟨23, 2, 0, 1, 0, 0, -1⟩, ⟨20, 0, 2, 0, 0, 0, -1⟩]).toArray := by rw [hW]; exact ((blk_new w rfl _ _).alloc _).alloc _
  have b2 : Blk W (w.heap.size + 1) 73 #[.slice (some ⟨w.heap.size, 0, none⟩) 2 2, .int .i64 3, .int .i64 1, .int .i64 0, .int .i64 0, .int .i64 (-1)] := by rw [hW]; exact (blk_new _ (by simp) _ _).alloc _
  have b3 : Blk W (w.heap.size + 1 + 1) 25 #[.slice none 0 0, .int .i64 2, .int .i64 3, .int .i64 0, .int .i64 0, .slice (some ⟨w.heap.size + 1, 0, none⟩) 1 1] := by rw [hW]; exact blk_new _ (by simp) _ _
  have hz : W.heap.size = w.heap.size + 1 + 1 + 1 := by rw [hW]; simp
  have V1 := V.below hb0
  -- the first run
  have b1a := b1.alloc (.cells #[.int .i64 1, .int .i64 0] 2)
  have b2a := b2.alloc (.cells #[.int .i64 1, .int .i64 0] 2)
  have b3a := b3.alloc (.cells #[.int .i64 1, .int .i64 0] 2)
  have hba : Below w.heap.size w (W.alloc (.cells #[.int .i64 1, .int .i64 0] 2)) := hb0.alloc hb0.size _
  have u1 := alive_in b1a b2a
  have r1 := row_blk (n := 2) (size := 1) (xs := numV [1, 0]) (blk_new W hz.symm 2 #[.int .i64 1, .int .i64 0]) rfl (by unfold maxLen; omega)
  have K1 := run_ok (ck_fine alive_fine u1 (V.below hba)) (fine_good alive_fine) (V.below hba) u1 [1, 0] _ _ r1 rfl 100 (by decide) (by decide)
  rw [alive1.1, alive1.2.1, alive1.2.2.1, alive1.2.2.2] at K1
  have HW := Lib.hid hW
  have HK := Lib.hid K1
  have HB1 := Lib.hid b1a
  have HB2 := Lib.hid b2a
  have HB3 := Lib.hid b3a
  have HBA := Lib.hid hba
  have HV := Lib.hid V
  have HZ := Lib.hid hz
  clear V V1 hb0 b1 b2 b3 hW b1a b2a b3a hba u1 r1 K1 hz
  go_enter Tryd.func16, Tryd.ntmps16
  go_wp2_with fail
  have HWo := HW.out
  simp only [opsC, opC, List.cons_append, List.nil_append] at HWo
  rw [← HWo]
  refine HK.out.mono ?_
  rintro x w2 ⟨v1, rfl, hr1, hb1⟩
  clear HWo
  have c1 := HB1.out.below hb1
  have c2 := HB2.out.below hb1
  have c3 := HB3.out.below hb1
  have hba : Below w.heap.size w w2 := HBA.out.trans (hb1.mono HBA.out.size)
  have q0 : w2.cell? ⟨w.heap.size + 1 + 1, 0, none⟩ = some (.slice none 0 0) := (c3.cell 0).trans rfl
  have q1 : w2.cell? ⟨w.heap.size + 1 + 1, 1, none⟩ = some (.int .i64 2) := (c3.cell 1).trans rfl
  have q2 : w2.cell? ⟨w.heap.size + 1 + 1, 2, none⟩ = some (.int .i64 3) := (c3.cell 2).trans rfl
  have q3 : w2.cell? ⟨w.heap.size + 1 + 1, 3, none⟩ = some (.int .i64 0) := (c3.cell 3).trans rfl
  have q4 : w2.cell? ⟨w.heap.size + 1 + 1, 4, none⟩ = some (.int .i64 0) := (c3.cell 4).trans rfl
  have q5 : w2.cell? ⟨w.heap.size + 1 + 1, 5, none⟩ = some (.slice (some ⟨w.heap.size + 1, 0, none⟩) 1 1) := (c3.cell 5).trans rfl
  have lq := c3.lt
  have nq : w.heap.size + 1 + 1 ≠ w2.heap.size := by omega
  have nq' := nq.symm
  obtain ⟨A1, k1, rfl, _⟩ := hr1.shape
  have HR1 := Lib.hid hr1
  have HC1 := Lib.hid c1
  have HC2 := Lib.hid c2
  have HBA2 := Lib.hid hba
  clear hr1 c1 c2 c3 hba hb1 HK
  go_wp2_with fail
  obtain ⟨W2, hW2⟩ : ∃ W2, W2 = (w2.alloc (.cells #[.slice A1 0 k1, .int .i64 2, .int .i64 (-2)] 30)).alloc (.cells #[.int .i64 6, .int .i64 2] 2) := ⟨_, rfl⟩
  have hbx : Below w2.heap.size w2 W2 := by rw [hW2]; exact ((Below.refl _ _).alloc (Nat.le_refl _) _).alloc (by simp) _
  have hby : Below w.heap.size w W2 := HBA2.out.trans (hbx.mono HBA2.out.size)
  have d1 := HC1.out.below hbx
  have d2 := HC2.out.below hbx
  have d3 : Blk W2 w2.heap.size 30 #[.slice A1 0 k1, .int .i64 2, .int .i64 (-2)] := by rw [hW2]; exact (blk_new _ rfl _ _).alloc _
  have d4 : Blk W2 (w2.heap.size + 1) 2 #[.int .i64 6, .int .i64 2] := by rw [hW2]; exact blk_new _ (by simp) _ _
  have u2 := alive_in d1 d2
  have r2 := row_blk (n := 2) (size := 1) (xs := numV [6, 2]) d4 rfl (by unfold maxLen; omega)
  have K2 := run_ok (ck_fine alive_fine u2 (HV.out.below hby)) (fine_good alive_fine) (HV.out.below hby) u2 [6, 2] _ _ r2 rfl 100 (by decide) (by decide)
  rw [alive2.1, alive2.2.1, alive2.2.2.1, alive2.2.2.2] at K2
  have HW2 := Lib.hid hW2
  rw [← HW2.out]
  refine K2.mono ?_
  rintro x w3 ⟨v2, rfl, hr2, hb2⟩
  obtain ⟨A2, k2, rfl, _⟩ := hr2.shape
  have e3 := d3.below hb2
  have p0 : w3.cell? ⟨w2.heap.size, 0, none⟩ = some (.slice A1 0 k1) := (e3.cell 0).trans rfl
  have p1 : w3.cell? ⟨w2.heap.size, 1, none⟩ = some (.int .i64 2) := (e3.cell 1).trans rfl
  have p2 : w3.cell? ⟨w2.heap.size, 2, none⟩ = some (.int .i64 (-2)) := (e3.cell 2).trans rfl
  have lp := e3.lt
  have np : w2.heap.size ≠ w3.heap.size := by omega
  have np' := np.symm
  have hbz : Below w.heap.size w w3 := hby.trans (hb2.mono hby.size)
  have HR1' := Lib.hid ((HR1.out.below hbx).below hb2)
  have HR2 := Lib.hid hr2
  have HBZ := Lib.hid hbz
  clear d1 d2 d3 d4 u2 r2 K2 hW2 hbx hby e3 hbz hr2 hb2 q0 q1 q2 q3 q4 q5 HC1 HC2 HR1
  go_wp2_with fail
  refine (outs_true 2 (-2) [] (HR1'.out.below ?_) (RdN.nil _) (by decide)).mono ?_
  · exact (Below.refl _ _).alloc (Nat.le_refl _) _
  rintro x w4 ⟨rfl, hb4⟩
  have hs4 := hb4.size
  simp only [World.size_alloc] at hs4
  have e4 : Blk w4 w3.heap.size 30 #[.slice A2 [(3 : Int)].length k2, .int .i64 1, .int .i64 2] := (blk_new w3 rfl _ _).below hb4
  have p0 : w4.cell? ⟨w3.heap.size, 0, none⟩ = some (.slice A2 1 k2) := (e4.cell 0).trans rfl
  have p1 : w4.cell? ⟨w3.heap.size, 1, none⟩ = some (.int .i64 1) := (e4.cell 1).trans rfl
  have p2 : w4.cell? ⟨w3.heap.size, 2, none⟩ = some (.int .i64 2) := (e4.cell 2).trans rfl
  have np3 : w3.heap.size ≠ w4.heap.size := by omega
  have np3' := np3.symm
  have HB4 := Lib.hid hb4
  clear e4 hb4
  go_wp2_with fail
  refine (outs_true 1 2 [3] (((HR2.out.below ?_).below HB4.out).below ?_) ⟨_, row_blk (n := 1) (size := 1) (xs := numV [3]) (blk_new w4 rfl 2 #[.int .i64 3]) rfl (by unfold maxLen; omega)⟩ (by decide)).mono ?_
  · exact (Below.refl _ _).alloc (Nat.le_refl _) _
  · exact (Below.refl _ _).alloc (Nat.le_refl _) _
  rintro x w5 ⟨rfl, hb5⟩
  have hs5 := hb5.size
  simp only [World.size_alloc] at hs5
  go_wp2
  go_ret
  refine ⟨rfl, ?_⟩
  have z1 : Below w.heap.size w (w3.alloc (.cells #[.slice A2 [(3 : Int)].length k2, .int .i64 1, .int .i64 2] 30)) := HBZ.out.alloc HBZ.out.size _
  have z2 : Below w.heap.size w w4 := z1.trans (HB4.out.mono z1.size)
  have z3 : Below w.heap.size w (w4.alloc (.cells #[.int .i64 3] 2)) := z2.alloc z2.size _
  exact z3.trans (hb5.mono z3.size)
end Go.Proofs.YtfkjkdoloamakaaDoor
