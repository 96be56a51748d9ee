/- op of the specification's Engine: the state is St.doR. -/
import Derived.Test.YtfkjkdoloamakaaDoorTk
import Derived.Test.YtfkjkdoloamakaaDoorTh
namespace Go.Proofs.YtfkjkdoloamakaaDoor
open Go.RowKit
set_option linter.unusedVariables false
set_option linter.unusedSimpArgs false
variable {F : Nat → Prop} {w0 w : World} {M0 : Nat → Prop} {p : Nat} {U : UnS} {s : St}

/-- what an operation makes of a state in which it is counted -/
def St.opD (U : UnS) (s : St) (o : OpI) : St := if (s.doR o).2.1 ≠ 0 then (s.doR o).1.trap U (s.doR o).2.1 else (s.doR o).1
theorem StGood.pc1 (S : StGood U s) (h : s.pc < (U.blocks.getD s.bl dBl).ops.length) : StGood U { s with pc := s.pc + 1 } := { S with pc := h }
/-- the three values that are read, as they come in -/
def xK (s : St) (l : List Int) (i : Nat) : List (Int × Int) := (l.take i).map s.reg ++ List.replicate (3 - i) (0, 0)
theorem xK_next (s : St) (l : List Int) (i : Nat) (h : i < l.length) (h3 : l.length ≤ 3) : (xK s l i).set i (s.reg (l.getD i 0)) = xK s l (i + 1) := by
  have hg : l.getD i 0 = l[i] := by rw [List.getD_eq_getElem?_getD, List.getElem?_eq_getElem h]; rfl
  unfold xK
  rw [hg, List.take_succ_eq_append_getElem h, List.map_append, List.append_assoc]
  have hl : ((l.take i).map s.reg).length = i := by simp; omega
  rw [List.set_append_right _ _ (by omega), hl, Nat.sub_self, show 3 - i = (3 - (i + 1)) + 1 by omega, List.replicate_succ]
  rfl
theorem xK_len (s : St) (l : List Int) (i : Nat) (h : i ≤ l.length) (h3 : l.length ≤ 3) : (xK s l i).length = 3 := by
  unfold xK; simp; omega
theorem xK_end (s : St) (k a b c : Int) : xK s (opL k a b c) (opL k a b c).length = [if hasA k = true then s.reg a else (0, 0), if hasB k = true then s.reg b else (0, 0), if hasC k = true then s.reg c else (0, 0)] := by
  have h1 := @hasB_A k
  have h2 := @hasC_B k
  unfold xK opL
  revert h1 h2
  cases hasA k <;> cases hasB k <;> cases hasC k <;> simp
theorem quietR {P : Program} {f : FuncId} {args : Array Value} {w : World} {n : Nat} {v : Value} (h : Calls P f args (w.drewN n) fun e w' => e = .returned v ∧ w.drewN n = w') :
    Calls P f args (w.drewN n) fun e w'' => e = .returned v ∧ ∃ m, w'' = w.drewN m := h.mono fun _ _ ⟨he, hm⟩ => ⟨he, n, hm.symm⟩
theorem St.act_arr (s : St) (o : OpI) (h : o.k = 16 ∨ o.k = 25 ∨ o.k = 17) : s.act o = (if elemT s o ≠ 0 ∧ o.k = 25 then (s.put o.d (0, elemT s o), 0, false) else if elemT s o ≠ 0 then (s, elemT s o, false) else if o.k = 17 then ({ s with arrs := s.arrs.modify o.n.toNat (fun l => l.set (s.reg o.a).1.toNat (s.reg o.b).1) }, 0, false) else (s.put o.d ((s.arr o.n).getD (s.reg o.a).1.toNat 0, 0), 0, false)) := by
  unfold St.act
  rw [if_neg (by omega), if_neg (by omega), if_pos h]
theorem St.act_oth (s : St) (o : OpI) (h : o.k = 20 ∨ o.k = 21 ∨ o.k = 22) : s.act o = (if (s.reg o.a).2 ≠ 0 then (s, (s.reg o.a).2, false) else if o.k = 20 then ({ s with prints := s.prints ++ [(s.reg o.a).1] }, 0, false) else if o.k = 21 ∧ (s.reg o.a).1 ≠ 0 then (s.enter o.n.toNat, 0, true) else (s, 0, false)) := by
  unfold St.act
  rw [if_neg (by omega), if_neg (by omega), if_neg (by omega)]
theorem unknown_k {k : Int} (h1 : 1 ≤ k) (h2 : k ≤ 25) (h : known k = false) : k = 16 ∨ k = 17 ∨ k = 18 ∨ k = 19 ∨ k = 20 ∨ k = 21 ∨ k = 22 ∨ k = 25 := by
  have h3 : k = 1 ∨ k = 2 ∨ k = 3 ∨ k = 4 ∨ k = 5 ∨ k = 6 ∨ k = 7 ∨ k = 8 ∨ k = 9 ∨ k = 10 ∨ k = 11 ∨ k = 12 ∨ k = 13 ∨ k = 14 ∨ k = 15 ∨ k = 23 ∨ k = 24 ∨ (k = 16 ∨ k = 17 ∨ k = 18 ∨ k = 19 ∨ k = 20 ∨ k = 21 ∨ k = 22 ∨ k = 25) := by omega
  rcases h3 with rfl | rfl | rfl | rfl | rfl | rfl | rfl | rfl | rfl | rfl | rfl | rfl | rfl | rfl | rfl | rfl | rfl | h3
  all_goals first | exact h3 | (revert h; decide)
theorem EngQ.belowFr {y : Lay} {L : EngL} {w' w'' : World} (h : EngQ y F w0 M0 w p U s L) (hb : Below w.heap.size w w') (hf : Fr (fun b => b = w.heap.size) w' w'') : EngQ y F w0 M0 w'' p U s L :=
  h.below (hb.trans (hf.below (fun b hb' => by subst hb'; exact Nat.le_refl _) hb.size))

set_option maxRecDepth 100000 in
set_option maxHeartbeats 8000000 in
theorem rdoop_any (G : UnGood U) (S : StGood U s) (E : EngX layR F w0 M0 w p U s) (o : OpI) (ho : OpGood U o) (hpc : s.pc < (U.blocks.getD s.bl dBl).ops.length) (hp4 : s.pc ≤ 400) :
    Calls Tryd.prog 54 #[.pointer (some ⟨p, 0, none⟩), opV o] w fun e w' => e = .returned (.tuple #[]) ∧ EngX layR F w0 M0 w' p U (({ s with pc := s.pc + 1 } : St).opD U o) := by
  obtain ⟨L, Q⟩ := E
  obtain ⟨k, d, a, b, c, n, g⟩ := o
  have hrl : s.regs.length ≤ 4096 := by have := G.r2; have := S.regs; omega
  have lp : p < w.heap.size := Q.e.blk.lt
  have np0 : p ≠ w.heap.size := by omega
  obtain ⟨W1, hW1⟩ : ∃ W1, W1 = (w.setCell ⟨p, 10, none⟩ (.int .i64 ((s.pc : Int) + 1))).alloc (.cells #[.int .i64 k, .int .i64 d, .int .i64 a, .int .i64 b, .int .i64 c, .int .i64 n, .int .i64 g] 76) := ⟨_, rfl⟩
  have hq := Q.e.blk.frozen 10
  have h10 := S10 Q.e
  have Q1 : EngQ layR F w0 M0 W1 p U { s with pc := s.pc + 1 } L := by rw [hW1]; exact (Q.pcR (s.pc + 1)).alloc _
  have hz1 : W1.heap.size = w.heap.size + 1 := by rw [hW1]; simp
  have hO1 : Blk W1 w.heap.size 76 #[.int .i64 k, .int .i64 d, .int .i64 a, .int .i64 b, .int .i64 c, .int .i64 n, .int .i64 g] := by rw [hW1]; exact blk_new _ (by simp) _ _
  have HS := Lib.hid (S.pc1 hpc)
  have HG := Lib.hid G
  have HGO := Lib.hid ho
  obtain ⟨s1, hs1⟩ : ∃ s1, s1 = ({ s with pc := s.pc + 1 } : St) := ⟨_, rfl⟩
  rw [← hs1] at HS Q1
  obtain ⟨sF, hsF⟩ : ∃ sF, sF = s1.opD U ⟨k, d, a, b, c, n, g⟩ := ⟨_, rfl⟩
  rw [← hs1, ← hsF]
  have HF := Lib.hid hsF
  have hrl1 : s1.regs.length ≤ 4096 := by rw [hs1]; exact hrl
  have HQ := Lib.hid Q1
  have HZ1 := Lib.hid hz1
  have lp1 : p < W1.heap.size := Q1.e.blk.lt
  have lr1 : L.gr < W1.heap.size := Q1.e.regs.lt
  have np1 : p ≠ W1.heap.size := by omega
  have np1' := np1.symm
  have nr1 : L.gr ≠ W1.heap.size := by omega
  have nr1' := nr1.symm
  have nw1 : w.heap.size ≠ W1.heap.size := by omega
  have nw1' := nw1.symm
  have lw1 : w.heap.size < W1.heap.size := by omega
  have HW1 := Lib.hid hW1
  have HO1 := Lib.hid hO1
  unfold opV
  simp only
  clear S Q G ho hpc hs1 hsF Q1 hW1 hO1 hrl hz1
  go_enter Tryd.func54, Tryd.ntmps54
  go_upto_if 20 with fail
  rw [← HW1.out]
  have o0 : W1.cell? ⟨w.heap.size, 0, none⟩ = some (.int .i64 k) := (HO1.out.cell 0).trans rfl
  have o1 : W1.cell? ⟨w.heap.size, 1, none⟩ = some (.int .i64 d) := (HO1.out.cell 1).trans rfl
  have o2 : W1.cell? ⟨w.heap.size, 2, none⟩ = some (.int .i64 a) := (HO1.out.cell 2).trans rfl
  have o3 : W1.cell? ⟨w.heap.size, 3, none⟩ = some (.int .i64 b) := (HO1.out.cell 3).trans rfl
  have o4 : W1.cell? ⟨w.heap.size, 4, none⟩ = some (.int .i64 c) := (HO1.out.cell 4).trans rfl
  have o5 : W1.cell? ⟨w.heap.size, 5, none⟩ = some (.int .i64 n) := (HO1.out.cell 5).trans rfl
  have o6 : W1.cell? ⟨w.heap.size, 6, none⟩ = some (.int .i64 g) := (HO1.out.cell 6).trans rfl
  have hgg := HGO.out.g
  go_cut [20] from 21 to 38 (fun v20 wx => Hid (¬ (g ≠ -1 ∧ (s1.reg g).2 ≠ 0) ∧ ¬ (g ≠ -1 ∧ (s1.reg g).1 = 0)) ∧ Below W1.heap.size W1 wx)
  case first => as_aux_lemma =>
    by_cases hg : g = -1
    · subst hg
      go_wp2
      go_meet
      exact ⟨Lib.hid ⟨fun h => h.1 rfl, fun h => h.1 rfl⟩, Below.refl _ _⟩
    · obtain ⟨gi0, gi1⟩ : inR g U.regs := hgg.elim (fun h => absurd h hg) id
      have gi2 : g < s1.regs.length := by rw [HS.out.regs]; exact gi1
      obtain ⟨y0, hy0⟩ : ∃ x, x = (s1.reg g).1 := ⟨_, rfl⟩
      obtain ⟨y1, hy1⟩ : ∃ x, x = (s1.reg g).2 := ⟨_, rfl⟩
      have r0 := reg0 HQ.out.e gi0 gi2
      have r1 := reg1 HQ.out.e gi0 gi2
      have c6 := S6 HQ.out.e
      rw [← hy0] at r0
      rw [← hy1] at r1
      have HY0 := Lib.hid hy0
      have HY1 := Lib.hid hy1
      have HG1 := Lib.hid hg
      clear hy0 hy1 hg hgg
      go_upto_region 3 with fail
      go_cut [4] from 21 to 38 (fun v4 wx => v4 = .pointer (some ⟨W1.heap.size, 0, none⟩) ∧ Blk wx W1.heap.size 85 #[.int .i64 y0, .int .i64 y1] ∧ Below W1.heap.size W1 wx)
      case first => as_aux_lemma =>
        go_region
        go_wp2
        go_meet
        refine ⟨rfl, blk_new _ rfl _ _, ?_⟩
        repeat' (first | (with_reducible exact Below.refl _ _) | (with_reducible refine drewN_below ?_ _) | (with_reducible refine Below.drew ?_) | (with_reducible refine Below.alloc ?_ ?_ _) | (with_reducible refine Below.setCell ?_ ?_ _) | (simp only; omega) | go_size)
      case rest =>
        obtain ⟨rfl, hbk, hbc⟩ := hcut
        have z0 : wc.cell? ⟨W1.heap.size, 0, none⟩ = some (.int .i64 y0) := (hbk.cell 0).trans rfl
        have z1 : wc.cell? ⟨W1.heap.size, 1, none⟩ = some (.int .i64 y1) := (hbk.cell 1).trans rfl
        have HBC := Lib.hid hbc
        have HQ2 := Lib.hid (HQ.out.below hbc)
        clear hbk hbc o0 o1 o2 o3 o4 o5 o6 r0 r1 c6
        by_cases h1 : y1 = 0
        · subst h1
          by_cases h0 : y0 = 0
          · subst h0
            have hF : sF = s1 := by
              rw [HF.out]
              have e : s1.doR ⟨k, d, a, b, c, n, g⟩ = (s1, 0, false) := by
                unfold St.doR
                rw [if_neg (fun h => h.2 HY1.out.symm), if_pos ⟨HG1.out, HY0.out.symm⟩]
              unfold St.opD
              rw [e]
              exact if_neg (fun h => h rfl)
            have HF2 := Lib.hid hF
            clear HF hF
            go_wp2
            first | go_end0 | refine bodyPost_ret (results_none rfl _ _ _) rfl ?_
            rw [HF2.out]
            exact ⟨rfl, HQ2.out.x⟩
          · have hb0 : (y0 == 0) = false := by simpa using h0
            have HH := Lib.hid h0
            clear h0
            go_wp2
            go_meet
            exact ⟨Lib.hid ⟨fun h => h.2 HY1.out.symm, fun h => HH.out (HY0.out.trans h.2)⟩, HBC.out⟩
        · have hF : sF = s1.trap U y1 := by
            rw [HF.out]
            have hn : (s1.reg g).2 ≠ 0 := by rw [← HY1.out]; exact h1
            have e : s1.doR ⟨k, d, a, b, c, n, g⟩ = (s1, (s1.reg g).2, false) := by
              unfold St.doR
              rw [if_pos ⟨HG1.out, hn⟩]
            unfold St.opD
            rw [e, HY1.out]
            exact if_pos hn
          have HF2 := Lib.hid hF
          have hb1 : (y1 != 0) = true := by simpa using h1
          clear HF hF h1
          go_wp2_with (go_at_call 80; refine (rtrap_any HG.out HS.out HQ2.out.x _).mono ?_; rintro e w3 ⟨rfl, E3⟩)
          first | go_end0 | refine bodyPost_ret (results_none rfl _ _ _) rfl ?_
          rw [HF2.out]
          exact ⟨rfl, E3⟩
  case rest =>
  obtain ⟨HGP, hb2⟩ := hcut
  clear o0 o1 o2 o3 o4 o5 o6 hgg
  obtain ⟨w2, hw2⟩ : ∃ x : World, x = wc := ⟨_, rfl⟩
  rw [← hw2] at hb2 ⊢
  clear hw2 wc
  have Q2 := HQ.out.below hb2
  have hO2 := HO1.out.fr (Fr.of_below (M := fun _ => False) hb2) not_false
  have o0 : w2.cell? ⟨w.heap.size, 0, none⟩ = some (.int .i64 k) := (hO2.cell 0).trans rfl
  have o1 : w2.cell? ⟨w.heap.size, 1, none⟩ = some (.int .i64 d) := (hO2.cell 1).trans rfl
  have o2 : w2.cell? ⟨w.heap.size, 2, none⟩ = some (.int .i64 a) := (hO2.cell 2).trans rfl
  have o3 : w2.cell? ⟨w.heap.size, 3, none⟩ = some (.int .i64 b) := (hO2.cell 3).trans rfl
  have o4 : w2.cell? ⟨w.heap.size, 4, none⟩ = some (.int .i64 c) := (hO2.cell 4).trans rfl
  have o5 : w2.cell? ⟨w.heap.size, 5, none⟩ = some (.int .i64 n) := (hO2.cell 5).trans rfl
  have o6 : w2.cell? ⟨w.heap.size, 6, none⟩ = some (.int .i64 g) := (hO2.cell 6).trans rfl
  have HQ2 := Lib.hid Q2
  have HO2 := Lib.hid hO2
  have HB2 := Lib.hid hb2
  clear Q2 hO2 hb2
  have lp2 : p < w2.heap.size := HQ2.out.e.blk.lt
  have lw2 : w.heap.size < w2.heap.size := HO2.out.lt
  have lr2 : L.gr < w2.heap.size := HQ2.out.e.regs.lt
  go_upto_block 0 with (go_at_call 81; (with_reducible refine (roperands_any _ _ _ _ _ _ _ _).mono ?_); rintro x w3 ⟨A6, c6, rfl, hrow, hb3⟩; have HROW := Lib.hid hrow; have HB3 := Lib.hid hb3; clear hrow hb3)
  obtain ⟨l, hl⟩ : ∃ l, l = opL k a b c := ⟨_, rfl⟩
  rw [← hl] at HROW ⊢
  have hl3 : l.length ≤ 3 := by rw [hl]; exact opL_len ..
  have hin : ∀ r ∈ l, r = a ∨ r = b ∨ r = c := fun r hr => opL_in (by rw [← hl]; exact hr)
  have HL := Lib.hid hl
  have HIN := Lib.hid hin
  clear hl hin o0 o1 o2 o3 o4 o5 o6
  have hx0 : Blk (w2.alloc (.cells #[.int .i64 0, .int .i64 0, .int .i64 0, .int .i64 0, .int .i64 0, .int .i64 0] 138)) w2.heap.size 138 (valC (xK s1 l 0)).toArray := blk_new w2 rfl _ _
  have hb23 : Below w2.heap.size w2 w3 := ((Below.refl _ _).alloc (Nat.le_refl _) _).trans (HB3.out.mono (by simp))
  have HX0 := Lib.hid (hx0.fr (Fr.of_below (M := fun _ => False) HB3.out) not_false)
  have HB23 := Lib.hid hb23
  clear hx0 hb23
  go_cut [7] from 41 to 241 (fun v7 wx => Blk wx w2.heap.size 138 (valC (xK s1 l l.length)).toArray ∧ Below w2.heap.size w2 wx)
  case first => as_aux_lemma =>
    go_wp2
    go_loopw [7] (fun v7 wz => ∃ i : Nat, i ≤ l.length ∧ v7 = .int .i64 i ∧ Blk wz w2.heap.size 138 (valC (xK s1 l i)).toArray ∧ Fr (fun b => b = w2.heap.size) w3 wz) (fun v7 _ => l.length - (intOf v7).toNat)
    case atStart => exact ⟨0, Nat.zero_le _, rfl, HX0.out, Fr.refl _ _⟩
    case round =>
      obtain ⟨i, hi, rfl, hbx, hfz⟩ := hrel
      rename World => wz
      by_cases hlt : i < l.length
      · have hiI : (i : Int) < l.length := by omega
        have hrow := HROW.out.fr hfz (fun g hg e => by subst e; simp at hg; omega)
        obtain ⟨g1, o1, rfl, hg1, lg1, hc⟩ := rowi_at hrow hlt
        obtain ⟨r, hr⟩ : ∃ r, r = l.getD i 0 := ⟨_, rfl⟩
        have hcr : wz.cell? ⟨g1, o1 + i, none⟩ = some (.int .i64 r) := hc _ (by rw [hr, numV, List.getElem?_map, List.getElem?_eq_getElem hlt, List.getD_eq_getElem?_getD, List.getElem?_eq_getElem hlt]; rfl)
        have hmem : r ∈ l := by rw [hr, List.getD_eq_getElem?_getD, List.getElem?_eq_getElem hlt]; exact List.getElem_mem hlt
        obtain ⟨ri0, ri1⟩ : inR r U.regs := by
          rcases HIN.out r hmem with h | h | h
          · rw [h]; exact HGO.out.a
          · rw [h]; exact HGO.out.b
          · rw [h]; exact HGO.out.c
        have ri2 : r < s1.regs.length := by rw [HS.out.regs]; exact ri1
        have Q4 := HQ2.out.belowFr HB23.out hfz
        have c6' := S6 Q4.e
        have r0 := reg0 Q4.e ri0 ri2
        have r1 := reg1 Q4.e ri0 ri2
        have hxl := xK_len s1 l i hi hl3
        have hi3 : i < (xK s1 l i).length := by omega
        have xa : wz.cell? ⟨w2.heap.size, i * 2, none⟩ = some (.int .i64 ((xK s1 l i)[i]).1) := by rw [hbx.cell, List.getElem?_toArray, valC_0 _ _ hi3]
        have xb : wz.cell? ⟨w2.heap.size, i * 2 + 1, none⟩ = some (.int .i64 ((xK s1 l i)[i]).2) := by rw [hbx.cell, List.getElem?_toArray, valC_1 _ _ hi3]
        obtain ⟨ya, hya⟩ : ∃ x, x = ((xK s1 l i)[i]).1 := ⟨_, rfl⟩
        obtain ⟨yb, hyb⟩ : ∃ x, x = ((xK s1 l i)[i]).2 := ⟨_, rfl⟩
        obtain ⟨z0, hz0⟩ : ∃ x, x = (s1.reg r).1 := ⟨_, rfl⟩
        obtain ⟨z1, hz1⟩ : ∃ x, x = (s1.reg r).2 := ⟨_, rfl⟩
        rw [← hya] at xa
        rw [← hyb] at xb
        rw [← hz0] at r0
        rw [← hz1] at r1
        have fa := hbx.frozen (i * 2)
        have fb := hbx.frozen (i * 2 + 1)
        have HNX : Hid ((xK s1 l i).set i (z0, z1) = xK s1 l (i + 1)) := Lib.hid (by rw [← xK_next s1 l i hlt hl3, ← hr, hz0, hz1])
        have HBX := Lib.hid hbx
        have HFZ := Lib.hid hfz
        have lg1' : g1 < wz.heap.size := lg1
        have lrz : L.gr < wz.heap.size := Q4.e.regs.lt
        have nr2 : L.gr ≠ w2.heap.size := by omega
        have np2 : p ≠ w2.heap.size := by omega
        clear hrow hc hr hmem hya hyb hz0 hz1 hbx hfz Q4 hxl hi3
        go_wp2
        go_region
        go_wp2
        go_roundw
        case rel =>
          refine ⟨i + 1, by omega, by go_num, ?_, ((HFZ.out.setCell (M := fun b => b = w2.heap.size) (p := ⟨w2.heap.size, i * 2, none⟩) (.inl rfl) _).setCell (M := fun b => b = w2.heap.size) (p := ⟨w2.heap.size, i * 2 + 1, none⟩) (.inl rfl) _).drewN 1⟩
          have hb := (HBX.out.set_ (i * 2) (.int .i64 z0)).set_ (i * 2 + 1) (.int .i64 z1)
          simp only [List.setIfInBounds_toArray] at hb
          rw [valC_set (xK s1 l i) i (z0, z1), HNX.out] at hb
          exact hb
        case measure => simp [intOf]; omega
      · obtain rfl : i = l.length := by omega
        go_wp2
        go_meet
        exact ⟨hbx, HB23.out.trans (hfz.below (fun b hb => by subst hb; exact Nat.le_refl _) HB23.out.size)⟩
  case rest =>
  obtain ⟨hxe, hb4⟩ := hcut
  obtain ⟨w4, hw4⟩ : ∃ x : World, x = wc := ⟨_, rfl⟩
  rw [← hw4] at hxe hb4 ⊢
  clear hw4 wc
  obtain ⟨⟨x00, x01⟩, hx0⟩ : ∃ x, x = (if hasA k = true then s1.reg a else (0, 0)) := ⟨_, rfl⟩
  obtain ⟨⟨x10, x11⟩, hx1⟩ : ∃ x, x = (if hasB k = true then s1.reg b else (0, 0)) := ⟨_, rfl⟩
  obtain ⟨⟨x20, x21⟩, hx2⟩ : ∃ x, x = (if hasC k = true then s1.reg c else (0, 0)) := ⟨_, rfl⟩
  have hxk := xK_end s1 k a b c
  rw [← HL.out, ← hx0, ← hx1, ← hx2] at hxk
  rw [hxk] at hxe
  have HXX := Lib.hid hxe
  have xx0 : w4.cell? ⟨w2.heap.size, 0, none⟩ = some (.int .i64 x00) := (hxe.cell 0).trans rfl
  have xx1 : w4.cell? ⟨w2.heap.size, 1, none⟩ = some (.int .i64 x01) := (hxe.cell 1).trans rfl
  have xx2 : w4.cell? ⟨w2.heap.size, 2, none⟩ = some (.int .i64 x10) := (hxe.cell 2).trans rfl
  have xx3 : w4.cell? ⟨w2.heap.size, 3, none⟩ = some (.int .i64 x11) := (hxe.cell 3).trans rfl
  have xx4 : w4.cell? ⟨w2.heap.size, 4, none⟩ = some (.int .i64 x20) := (hxe.cell 4).trans rfl
  have xx5 : w4.cell? ⟨w2.heap.size, 5, none⟩ = some (.int .i64 x21) := (hxe.cell 5).trans rfl
  have Q4 := HQ2.out.below hb4
  have hO4 := HO2.out.fr (Fr.of_below (M := fun _ => False) hb4) not_false
  have o0 : w4.cell? ⟨w.heap.size, 0, none⟩ = some (.int .i64 k) := (hO4.cell 0).trans rfl
  have o1 : w4.cell? ⟨w.heap.size, 1, none⟩ = some (.int .i64 d) := (hO4.cell 1).trans rfl
  have o2 : w4.cell? ⟨w.heap.size, 2, none⟩ = some (.int .i64 a) := (hO4.cell 2).trans rfl
  have o3 : w4.cell? ⟨w.heap.size, 3, none⟩ = some (.int .i64 b) := (hO4.cell 3).trans rfl
  have o4 : w4.cell? ⟨w.heap.size, 4, none⟩ = some (.int .i64 c) := (hO4.cell 4).trans rfl
  have o5 : w4.cell? ⟨w.heap.size, 5, none⟩ = some (.int .i64 n) := (hO4.cell 5).trans rfl
  have o6 : w4.cell? ⟨w.heap.size, 6, none⟩ = some (.int .i64 g) := (hO4.cell 6).trans rfl
  have HQ4 := Lib.hid Q4
  have HO4 := Lib.hid hO4
  have HXA := Lib.hid hx0
  have HXB := Lib.hid hx1
  have HXC := Lib.hid hx2
  have lw4 : w.heap.size < w4.heap.size := hO4.lt
  have lp4 : p < w4.heap.size := Q4.e.blk.lt
  have lr4 : L.gr < w4.heap.size := Q4.e.regs.lt
  have l24 : w2.heap.size < w4.heap.size := hxe.lt
  have np2 : p ≠ w2.heap.size := by omega
  have np2' := np2.symm
  have nr2 : L.gr ≠ w2.heap.size := by omega
  have nr2' := nr2.symm
  have c6 := S6 Q4.e
  have di0 := HGO.out.d.1
  have di1 : d < s1.regs.length := by rw [HS.out.regs]; exact HGO.out.d.2
  simp only at di0 di1
  obtain ⟨e0, he0⟩ : ∃ x, x = (s1.reg d).1 := ⟨_, rfl⟩
  obtain ⟨e1, he1⟩ : ∃ x, x = (s1.reg d).2 := ⟨_, rfl⟩
  have rd0 := reg0 Q4.e di0 di1
  have rd1 := reg1 Q4.e di0 di1
  rw [← he0] at rd0
  rw [← he1] at rd1
  have fd0 := Q4.e.regs.frozen (d.toNat * 2)
  have fd1 := Q4.e.regs.frozen (d.toNat * 2 + 1)
  have hfa : fm (x00, x01) = true := by
    rw [hx0]
    split
    · obtain ⟨i0, i1⟩ := HGO.out.a
      have hra : a < s1.regs.length := by rw [HS.out.regs]; exact i1
      rw [reg_at s1 i0 hra]
      exact HS.out.form _ (List.getElem_mem _)
    · rfl
  have hdo : s1.doR ⟨k, d, a, b, c, n, g⟩ = if known k = true then (if doT0 k (s1.reg a) (s1.reg b) ≠ 0 then (s1, doT0 k (s1.reg a) (s1.reg b), false) else (s1.put d (doV0 k n (s1.reg a) (s1.reg b) (s1.reg c)), 0, false)) else s1.act ⟨k, d, a, b, c, n, g⟩ := by
    unfold St.doR
    rw [if_neg HGP.out.1, if_neg HGP.out.2]
  have HDO := Lib.hid hdo
  have HFA := Lib.hid hfa
  clear hxe hb4 hx0 hx1 hx2 hxk Q4 hO4 he0 he1 hfa hdo
  obtain ⟨kn, hkn⟩ : ∃ t, t = known k := ⟨_, rfl⟩
  have kh := fun (W : World) => has_any k W
  rw [← hkn] at kh
  have KH := Lib.hid kh
  clear kh
  cases kn
  · have HKN := Lib.hid hkn
    have hact := HDO.out
    rw [if_neg (by rw [← hkn]; exact Bool.false_ne_true)] at hact
    have HACT := Lib.hid hact
    have hk1 : 1 ≤ k := HGO.out.k1
    have hk2 : k ≤ 25 := HGO.out.k2
    have hkk : k = 16 ∨ k = 17 ∨ k = 18 ∨ k = 19 ∨ k = 20 ∨ k = 21 ∨ k = 22 ∨ k = 25 := unknown_k hk1 hk2 hkn.symm
    have ai0 := HGO.out.a.1
    have ai1 : a < s1.regs.length := by rw [HS.out.regs]; exact HGO.out.a.2
    simp only at ai0 ai1
    clear hkn hact hk1 hk2
    by_cases h18 : k = 18
    · subst h18
      have hn := HGO.out.cell (.inl rfl)
      have n0 : 0 ≤ n := hn.1
      have n1 : n < s1.kept.length := by rw [HS.out.kept]; exact hn.2
      have nk : s1.kept.length ≤ 4096 := by have := HS.out.kept; have := HG.out.sp2; omega
      have c8 := S8 HQ4.out.e
      have k0 := kept0 HQ4.out.e n0 n1
      have k1 := kept1 HQ4.out.e n0 n1
      obtain ⟨y0, hy0⟩ : ∃ x, x = (s1.kept.getD n.toNat (0, 0)).1 := ⟨_, rfl⟩
      obtain ⟨y1, hy1⟩ : ∃ x, x = (s1.kept.getD n.toNat (0, 0)).2 := ⟨_, rfl⟩
      rw [← hy0] at k0
      rw [← hy1] at k1
      have hF : sF = s1.put d (y0, y1) := by
        rw [HF.out]; unfold St.opD
        rw [HACT.out]
        have e : s1.act ⟨18, d, a, b, c, n, g⟩ = (s1.put d (s1.kept.getD n.toNat (0, 0)), 0, false) := by unfold St.act; exact if_pos rfl
        rw [e, hy0, hy1]
        rfl
      have HF2 := Lib.hid hF
      clear hF HF hy0 hy1 hn hkk
      go_wp2_with (go_at_call 82; (with_reducible refine (KH.out _).mono ?_); rintro x w5 ⟨rfl, rfl⟩)
      go_region
      go_wp2
      first | go_end0 | refine bodyPost_ret (results_none rfl _ _ _) rfl ?_
      rw [HF2.out]
      exact ⟨rfl, ((HQ4.out.drewN 1).newReg okR d.toNat (y0, y1)).x⟩
    by_cases h19 : k = 19
    · subst h19
      have hn := HGO.out.cell (.inr rfl)
      have n0 : 0 ≤ n := hn.1
      have n1 : n < s1.kept.length := by rw [HS.out.kept]; exact hn.2
      have nk : s1.kept.length ≤ 4096 := by have := HS.out.kept; have := HG.out.sp2; omega
      have c8 := S8 HQ4.out.e
      have k0 := kept0 HQ4.out.e n0 n1
      have k1 := kept1 HQ4.out.e n0 n1
      obtain ⟨y0, hy0⟩ : ∃ x, x = (s1.kept.getD n.toNat (0, 0)).1 := ⟨_, rfl⟩
      obtain ⟨y1, hy1⟩ : ∃ x, x = (s1.kept.getD n.toNat (0, 0)).2 := ⟨_, rfl⟩
      rw [← hy0] at k0
      rw [← hy1] at k1
      have fk0 := HQ4.out.e.kept.frozen (n.toNat * 2)
      have fk1 := HQ4.out.e.kept.frozen (n.toNat * 2 + 1)
      have hF : sF = { s1 with kept := s1.kept.set n.toNat (x00, x01) } := by
        rw [HF.out]; unfold St.opD
        rw [HACT.out]
        have e : s1.act ⟨19, d, a, b, c, n, g⟩ = ({ s1 with kept := s1.kept.set n.toNat (s1.reg a) }, 0, false) := by unfold St.act; exact (if_neg (show ¬ (19 : Int) = 18 by decide)).trans (if_pos rfl)
        have ex := HXA.out
        rw [if_pos (by decide)] at ex
        rw [e, ex]
        rfl
      have HF2 := Lib.hid hF
      clear hF HF hy0 hy1 hn hkk
      go_wp2_with (go_at_call 82; (with_reducible refine (KH.out _).mono ?_); rintro x w5 ⟨rfl, rfl⟩)
      go_region
      go_wp2
      first | go_end0 | refine bodyPost_ret (results_none rfl _ _ _) rfl ?_
      rw [HF2.out]
      exact ⟨rfl, ((HQ4.out.drewN 1).newKept okR n.toNat (x00, x01)).x⟩
    by_cases h3 : k = 20 ∨ k = 21 ∨ k = 22
    · have hb18 : (k == 18) = false := by simp; omega
      have hb19 : (k == 19) = false := by simp; omega
      have hb25 : (k == 25) = false := by simp; omega
      have hA : hasA k = true := decide_eq_true (by omega)
      have hB : hasB k = false := decide_eq_false (by omega)
      have hR : isArr k = false := decide_eq_false (by omega)
      have hxa := HXA.out
      rw [if_pos hA] at hxa
      have hxb := HXB.out
      rw [if_neg (by rw [hB]; exact Bool.false_ne_true)] at hxb
      obtain ⟨rfl, rfl⟩ : x10 = 0 ∧ x11 = 0 := by injection hxb with h1 h2; exact ⟨h1, h2⟩
      have hact := s1.act_oth ⟨k, d, a, b, c, n, g⟩ h3
      simp only at hact
      rw [← hxa] at hact
      simp only at hact
      have kar := fun (W : World) => rArr_any k W
      rw [hR] at kar
      have KAR := Lib.hid kar
      have HXA2 := Lib.hid hxa
      clear kar hR hA hB hxa hxb hkk
      by_cases hb : x01 = 0
      · subst hb
        rw [if_neg (fun h => h rfl)] at hact
        have HACT2 := Lib.hid hact
        clear hact
        go_upto_region 26 with (go_at_call 82; (with_reducible refine (KH.out _).mono ?_); rintro x w5 ⟨rfl, rfl⟩)
        go_cut [151] from 124 to 151 (fun v wx => v = .bool false ∧ Below w4.heap.size w4 wx)
        case first => as_aux_lemma =>
          go_quiet (first | (go_at_call 84; exact quietR (KAR.out _)))
          go_wp2
          go_meet
          exact ⟨rfl, drewN_below (Below.refl _ _) _⟩
        case rest =>
          obtain ⟨rfl, hbq⟩ := hcut
          have Q5 := HQ4.out.below hbq
          have p0 := (hbq.cell (p := ⟨w.heap.size, 0, none⟩) lw4).trans o0
          have p5 := (hbq.cell (p := ⟨w.heap.size, 5, none⟩) lw4).trans o5
          have px0 := (hbq.cell (p := ⟨w2.heap.size, 0, none⟩) l24).trans xx0
          have HQ5 := Lib.hid Q5
          by_cases h22 : k = 22
          · subst h22
            have hF : sF = s1 := by
              rw [HF.out]; unfold St.opD
              rw [HACT.out, HACT2.out.trans ((if_neg (show ¬ (22 : Int) = 20 by decide)).trans (if_neg (fun h => absurd (show (22 : Int) = 21 from h.1) (by decide))))]
              rfl
            have HF2 := Lib.hid hF
            clear hF HF hbq Q5
            go_wp2
            first | go_end0 | refine bodyPost_ret (results_none rfl _ _ _) rfl ?_
            rw [HF2.out]
            exact ⟨rfl, HQ5.out.x⟩
          by_cases h21 : k = 21
          · subst h21
            have hn := HGO.out.exit rfl
            have n0 : 0 ≤ n := hn.1
            have n1 : n < s1.seen.length := by rw [HS.out.seen]; exact hn.2
            have n2 : s1.seen.length ≤ 2000 := by rw [HS.out.seen]; exact HG.out.mb
            by_cases hz : x00 = 0
            · subst hz
              have hF : sF = s1 := by
                rw [HF.out]; unfold St.opD
                rw [HACT.out, HACT2.out.trans ((if_neg (show ¬ (21 : Int) = 20 by decide)).trans (if_neg (fun h => h.2 rfl)))]
                rfl
              have HF2 := Lib.hid hF
              clear hF HF hbq Q5
              go_wp2
              first | go_end0 | refine bodyPost_ret (results_none rfl _ _ _) rfl ?_
              rw [HF2.out]
              exact ⟨rfl, HQ5.out.x⟩
            · have hF : sF = s1.enter n.toNat := by
                rw [HF.out]; unfold St.opD
                rw [HACT.out, HACT2.out.trans ((if_neg (show ¬ (21 : Int) = 20 by decide)).trans (if_pos ⟨rfl, hz⟩))]
                rfl
              have HF2 := Lib.hid hF
              have hzb : (x00 != 0) = true := by simpa using hz
              clear hF HF hbq Q5 hz
              go_wp2_with (go_at_call 53; refine (renter_any HQ5.out.x n n0 n1 HS.out.ways n2).mono ?_; rintro e w6 ⟨rfl, E3⟩)
              first | go_end0 | refine bodyPost_ret (results_none rfl _ _ _) rfl ?_
              rw [HF2.out]
              exact ⟨rfl, E3⟩
          have h20 : k = 20 := by omega
          subst h20
          have hF : sF = { s1 with prints := s1.prints ++ [x00] } := by
            rw [HF.out]; unfold St.opD
            rw [HACT.out, HACT2.out.trans (if_pos rfl)]
            rfl
          obtain ⟨A, cc, hvp⟩ := own_shape Q5.e.prints
          have hpl : s1.prints.length ≤ 1000000000000 := by have := HS.out.pr; have := HS.out.st1; omega
          obtain ⟨i0, hi, hz0, hz1, hz2⟩ := info_parts i64_info
          have c12 := S12 Q5.e
          rw [hvp] at c12
          have HVP := Lib.hid hvp
          have HF2 := Lib.hid hF
          have lp5 : p < wc.heap.size := Q5.e.blk.lt
          clear hF HF hbq Q5 hvp
          go_wp2
          go_region_law ((refine step_append_own rfl (.tmp 223) (.tmp 227) 26 rfl 0 2 i0 (.int .i64 0) 1 8 Tryd.underlying26 hi hz0 hz1 hz2 rfl (by decide) (.slice A s1.prints.length cc) s1.prints.length (numV s1.prints) rfl ?co ⟨wc.heap.size, 0, none⟩ 1 1 [.int .i64 x00] rfl rfl ?c1 ?c2 ?c3 ?c4 ?c5 ?_; (case co => (rw [← HVP.out]; exact ((HQ5.out.drewN 1).alloc _).e.prints)); (case c1 => exact cell_new _ _ (by simp) _ _); (case c2 => exact one_mem rfl); (case c3 => (unfold maxLen; omega)); (case c4 => omega); (case c5 => exact Nat.zero_le _); intro v' w7 hown1 hg1 hat1; obtain ⟨A1, cc1, rfl⟩ := own_shape hown1; rw [← HVP.out] at hg1 hat1; have hp1 := (((HQ5.out.drewN 1).alloc _).e.blk_prints okR hg1); have c121 : w7.cell? ⟨p, 12, none⟩ = some L.vp := (hp1.cell 12).trans rfl; have f121 := hp1.frozen 12; have HO7 := Lib.hid hown1; have HG7 := Lib.hid hg1; have HA7 := Lib.hid hat1; clear hown1 hg1 hat1 hp1))
          all_goals
            go_wp2
            first | go_end0 | refine bodyPost_ret (results_none rfl _ _ _) rfl ?_
            rw [HF2.out]
            exact ⟨rfl, (((HQ5.out.drewN 1).alloc _).newPrints okR HG7.out (own_snoc HO7.out rfl) (HA7.out.elim .inl (fun h => .inr ⟨_, h, Nat.le_refl _⟩))).x⟩
      · have hF : sF = s1.trap U x01 := by
          rw [HF.out]; unfold St.opD
          rw [HACT.out, hact, if_pos hb]
          exact if_pos hb
        have HF2 := Lib.hid hF
        have hb1 : (x01 == 0) = false := by simpa using hb
        have hb2 : (x01 != 0) = true := by simpa using hb
        clear hF HF hact hb
        go_upto_region 26 with (go_at_call 82; (with_reducible refine (KH.out _).mono ?_); rintro x w5 ⟨rfl, rfl⟩)
        go_cut [151] from 124 to 151 (fun v wx => v = .bool false ∧ Below w4.heap.size w4 wx)
        case first => as_aux_lemma =>
          go_quiet (first | (go_at_call 84; exact quietR (KAR.out _)))
          go_wp2
          go_meet
          exact ⟨rfl, drewN_below (Below.refl _ _) _⟩
        case rest =>
          obtain ⟨rfl, hbq⟩ := hcut
          have p0 := (hbq.cell (p := ⟨w.heap.size, 0, none⟩) lw4).trans o0
          have HQ5 := Lib.hid (HQ4.out.below hbq)
          clear hbq
          go_wp2_with (go_at_call 80; refine (rtrap_any HG.out HS.out HQ5.out.x _).mono ?_; rintro e w6 ⟨rfl, E3⟩)
          first | go_end0 | refine bodyPost_ret (results_none rfl _ _ _) rfl ?_
          rw [HF2.out]
          exact ⟨rfl, E3⟩
    have ha3 : k = 16 ∨ k = 25 ∨ k = 17 := by omega
    have hact := s1.act_arr ⟨k, d, a, b, c, n, g⟩ ha3
    simp only at hact
    have hb18 : (k == 18) = false := by simp; omega
    have hb19 : (k == 19) = false := by simp; omega
    have hni := HGO.out.arr (by simp only; omega)
    have n0 : 0 ≤ n := hni.1
    have n1 : n < s1.arrs.length := by rw [HS.out.arrs]; exact hni.2
    have nl : s1.arrs.length ≤ 16 := by rw [HS.out.arrs]; exact HG.out.ns
    obtain ⟨gv, cv, hva, hcv⟩ := arr_at HQ4.out.e n0 n1
    have c7 := S7 HQ4.out.e
    rw [hva] at c7
    obtain ⟨gi, hgi⟩ : ∃ x, x = L.ga.getD n.toNat 0 := ⟨_, rfl⟩
    rw [← hgi] at hcv
    have HGI := Lib.hid hgi
    clear hgi
    obtain ⟨al, hal⟩ : ∃ x, x = (s1.arr n).length := ⟨_, rfl⟩
    have hal6 : al ≤ 65536 := by
      rw [hal]
      have hm : s1.arr n ∈ s1.arrs := by
        unfold St.arr
        rw [List.getD_eq_getElem?_getD, List.getElem?_eq_getElem (by omega)]
        exact List.getElem_mem _
      exact HS.out.alen _ hm
    rw [← hal] at hcv
    have hA : hasA k = true := decide_eq_true (by omega)
    have hR : isArr k = true := decide_eq_true (by omega)
    have hxa := HXA.out
    rw [if_pos hA] at hxa
    have kar := fun (W : World) => rArr_any k W
    rw [hR] at kar
    have KAR := Lib.hid kar
    obtain ⟨bd0, hbd0⟩ : ∃ x, x = (if x01 = 0 then x11 else x01) := ⟨_, rfl⟩
    have hbad : badOf s1.regs (readsArr ⟨k, d, a, b, c, n, g⟩) = bd0 := by
      have ha : (s1.regs.getD a.toNat (0, 0)).2 = x01 := by rw [show s1.regs.getD a.toNat (0, 0) = s1.reg a from rfl, ← hxa]
      rw [hbd0]
      by_cases h17 : k = 17
      · have hxb := HXB.out
        have hB17 : hasB k = true := decide_eq_true (by omega)
        rw [if_pos hB17] at hxb
        have hb : (s1.regs.getD b.toNat (0, 0)).2 = x11 := by rw [show s1.regs.getD b.toNat (0, 0) = s1.reg b from rfl, ← hxb]
        unfold readsArr
        rw [if_pos h17]
        simp only [badOf]
        rw [ha, hb]
        by_cases h0 : x01 = 0
        · rw [if_neg (fun h => h h0), if_pos h0]
          by_cases h1 : x11 = 0
          · rw [if_neg (fun h => h h1), h1]
          · rw [if_pos h1]
        · rw [if_pos h0, if_neg h0]
      · have hxb := HXB.out
        rw [if_neg (by have : hasB k = false := decide_eq_false (by omega); rw [this]; exact Bool.false_ne_true)] at hxb
        have hb : x11 = 0 := by injection hxb
        unfold readsArr
        rw [if_neg h17]
        simp only [badOf]
        rw [ha, hb]
        by_cases h0 : x01 = 0
        · rw [if_neg (fun h => h h0), if_pos h0]
        · rw [if_pos h0, if_neg h0]
    obtain ⟨bd, hbd⟩ : ∃ x, x = elemT s1 ⟨k, d, a, b, c, n, g⟩ := ⟨_, rfl⟩
    have hel : bd = if bd0 ≠ 0 then bd0 else if x00 < 0 ∨ (al : Int) ≤ x00 then -1 else 0 := by
      rw [hbd]; unfold elemT
      rw [hbad, ← hal]
      simp only
      rw [← hxa]
    rw [← hbd] at hact
    have HACT2 := Lib.hid hact
    have HBD0 := Lib.hid hbd0
    have HEL := Lib.hid hel
    have HXA2 := Lib.hid hxa
    have HAL := Lib.hid hal
    have lgv : gv < w4.heap.size := lt_cell hcv
    clear hact hni hva hal hA hR hxa kar hbd0 hbad hbd hel hkk
    go_upto_if 120 with (go_at_call 82; (with_reducible refine (KH.out _).mono ?_); rintro x w5 ⟨rfl, rfl⟩)
    go_cut [10] from 121 to 123 (fun v10 wx => v10 = .int .i64 bd0 ∧ Below w4.heap.size w4 wx)
    case first => as_aux_lemma =>
      by_cases h0 : x01 = 0
      · subst h0
        have e := HBD0.out
        rw [if_pos rfl] at e
        subst e
        go_wp2
        go_meet
        exact ⟨rfl, Below.refl _ _⟩
      · have e := HBD0.out
        rw [if_neg h0] at e
        subst e
        have hb0 : (bd0 == 0) = false := by simpa using h0
        clear h0
        go_wp2
        go_meet
        exact ⟨rfl, Below.refl _ _⟩
    case rest =>
    obtain ⟨rfl, hbq⟩ := hcut
    obtain ⟨w5, hw5⟩ : ∃ x : World, x = wc := ⟨_, rfl⟩
    rw [← hw5] at hbq ⊢
    clear hw5 wc
    have p0 := (hbq.cell (p := ⟨w.heap.size, 0, none⟩) lw4).trans o0
    have p5 := (hbq.cell (p := ⟨w.heap.size, 5, none⟩) lw4).trans o5
    have px0 := (hbq.cell (p := ⟨w2.heap.size, 0, none⟩) l24).trans xx0
    have p7 := (hbq.cell (p := ⟨p, 7, none⟩) lp4).trans c7
    have pcv := (hbq.cell (p := ⟨gv, n.toNat, none⟩) lgv).trans hcv
    obtain ⟨fi, hfi⟩ : ∃ t, t = decide (bd0 = 0 ∧ (x00 < 0 ∨ (al : Int) ≤ x00)) := ⟨_, rfl⟩
    have HFI := Lib.hid hfi
    have HBQ := Lib.hid hbq
    clear hfi hbq
    go_upto_region 26 with fail
    go_cut [151] from 124 to 151 (fun v wx => v = .bool fi ∧ Below w5.heap.size w5 wx)
    case first => as_aux_lemma =>
      by_cases h0 : bd0 = 0
      · subst h0
        by_cases h1 : x00 < 0
        · have e : fi = true := by rw [HFI.out]; exact decide_eq_true ⟨rfl, .inl h1⟩
          subst e
          go_quiet (first | (go_at_call 84; exact quietR (KAR.out _)))
          go_wp2
          go_meet
          exact ⟨rfl, drewN_below (Below.refl _ _) _⟩
        · by_cases h2 : (al : Int) ≤ x00
          · have e : fi = true := by rw [HFI.out]; exact decide_eq_true ⟨rfl, .inr h2⟩
            subst e
            go_quiet (first | (go_at_call 84; exact quietR (KAR.out _)))
            go_wp2
            go_meet
            exact ⟨rfl, drewN_below (Below.refl _ _) _⟩
          · have e : fi = false := by rw [HFI.out]; exact decide_eq_false (fun h => h.2.elim h1 h2)
            subst e
            go_quiet (first | (go_at_call 84; exact quietR (KAR.out _)))
            go_wp2
            go_meet
            exact ⟨rfl, drewN_below (Below.refl _ _) _⟩
      · have e : fi = false := by rw [HFI.out]; exact decide_eq_false (fun h => h0 h.1)
        subst e
        have hb0 : (bd0 == 0) = false := by simpa using h0
        clear h0
        go_quiet (first | (go_at_call 84; exact quietR (KAR.out _)))
        go_wp2
        go_meet
        exact ⟨rfl, drewN_below (Below.refl _ _) _⟩
    case rest =>
    obtain ⟨rfl, hbr⟩ := hcut
    go_upto_if 151 with fail
    go_cut [10] from 152 to 152 (fun v10 wx => v10 = .int .i64 bd ∧ Below w5.heap.size w5 wx)
    case first => as_aux_lemma =>
      cases fi
      · have e : bd = bd0 := by
          rw [HEL.out]
          have hn := of_decide_eq_false HFI.out.symm
          by_cases h0 : bd0 = 0
          · rw [if_neg (fun h => h h0), if_neg (fun h => hn ⟨h0, h⟩), h0]
          · rw [if_pos h0]
        subst e
        go_wp2
        go_meet
        exact ⟨rfl, hbr⟩
      · have e : bd = -1 := by
          rw [HEL.out]
          have hn := of_decide_eq_true HFI.out.symm
          rw [if_neg (fun h => h hn.1), if_pos hn.2]
        subst e
        go_wp2
        go_meet
        exact ⟨rfl, hbr⟩
    case rest =>
    obtain ⟨rfl, hbs⟩ := hcut
    clear p0 p5 px0 p7 pcv
    obtain ⟨w6, hw6⟩ : ∃ x : World, x = wc := ⟨_, rfl⟩
    rw [← hw6] at hbs ⊢
    have hb46 : Below w4.heap.size w4 w6 := HBQ.out.trans (hbs.mono HBQ.out.size)
    clear hw6 hbs
    have p0 := (hb46.cell (p := ⟨w.heap.size, 0, none⟩) lw4).trans o0
    have p1 := (hb46.cell (p := ⟨w.heap.size, 1, none⟩) lw4).trans o1
    have p5 := (hb46.cell (p := ⟨w.heap.size, 5, none⟩) lw4).trans o5
    have px0 := (hb46.cell (p := ⟨w2.heap.size, 0, none⟩) l24).trans xx0
    have px2 := (hb46.cell (p := ⟨w2.heap.size, 2, none⟩) l24).trans xx2
    have p6 := (hb46.cell (p := ⟨p, 6, none⟩) lp4).trans c6
    have p7 := (hb46.cell (p := ⟨p, 7, none⟩) lp4).trans c7
    have pcv := (hb46.cell (p := ⟨gv, n.toNat, none⟩) lgv).trans hcv
    have pr0 := (hb46.cell (p := ⟨L.gr, d.toNat * 2, none⟩) lr4).trans rd0
    have pr1 := (hb46.cell (p := ⟨L.gr, d.toNat * 2 + 1, none⟩) lr4).trans rd1
    have Q6 := HQ4.out.below hb46
    have gd0 := Q6.e.regs.frozen (d.toNat * 2)
    have gd1 := Q6.e.regs.frozen (d.toNat * 2 + 1)
    have HQ6 := Lib.hid Q6
    clear Q6 hb46 o0 o1 o2 o3 o4 o5 o6 xx0 xx1 xx2 xx3 xx4 xx5 c6 c7 hcv rd0 rd1 fd0 fd1
    by_cases hb : bd = 0
    · subst hb
      have he := HEL.out
      have h0 : bd0 = 0 := by
        by_cases h : bd0 = 0
        · exact h
        · rw [if_pos h] at he; exact absurd he.symm h
      rw [if_neg (fun h => h h0)] at he
      have hr : ¬ (x00 < 0 ∨ (al : Int) ≤ x00) := fun h => by rw [if_pos h] at he; exact absurd he (by decide)
      have i0 : 0 ≤ x00 := by omega
      have i1 : x00 < al := by omega
      have ha2 := HXA2.out
      have hax : (s1.reg a).1 = x00 := by rw [← ha2]
      obtain ⟨hin, hfin⟩ := inner_at HQ6.out.e n0 n1 i0 (by rw [← HAL.out]; exact i1)
      rw [← HGI.out] at hin hfin
      obtain ⟨el, hel⟩ : ∃ x, x = (s1.arr n).getD x00.toNat 0 := ⟨_, rfl⟩
      rw [← hel] at hin
      have hac := HACT2.out
      rw [if_neg (fun h => h.1 rfl), if_neg (fun h => h rfl), hax] at hac
      clear he h0 hr ha2 hax
      by_cases h17 : k = 17
      · subst h17
        have hxb := HXB.out
        rw [if_pos (by decide)] at hxb
        have hbx : (s1.reg b).1 = x10 := by rw [← hxb]
        rw [if_pos rfl, hbx] at hac
        have hF : sF = { s1 with arrs := s1.arrs.modify n.toNat (fun l => l.set x00.toNat x10) } := by
          rw [HF.out]; unfold St.opD
          rw [HACT.out, hac]
          rfl
        have HF2 := Lib.hid hF
        clear hF HF hac hbx hxb hel
        go_wp2
        go_region
        go_wp2
        first | go_end0 | refine bodyPost_ret (results_none rfl _ _ _) rfl ?_
        rw [HF2.out]
        have h := ((HQ6.out.drewN 1).newArr okR n.toNat x00.toNat (by omega) x10).x
        rw [← HGI.out] at h
        exact ⟨rfl, h⟩
      · rw [if_neg h17, ← hel] at hac
        have hF : sF = s1.put d (el, 0) := by
          rw [HF.out]; unfold St.opD
          rw [HACT.out, hac]
          rfl
        have HF2 := Lib.hid hF
        clear hF HF hac hel
        rcases (show k = 16 ∨ k = 25 by omega) with rfl | rfl
        · go_wp2
          go_region
          go_wp2
          first | go_end0 | refine bodyPost_ret (results_none rfl _ _ _) rfl ?_
          rw [HF2.out]
          exact ⟨rfl, ((HQ6.out.drewN 1).newReg okR d.toNat (el, 0)).x⟩
        · go_wp2
          go_region
          go_wp2
          first | go_end0 | refine bodyPost_ret (results_none rfl _ _ _) rfl ?_
          rw [HF2.out]
          exact ⟨rfl, ((HQ6.out.drewN 1).newReg okR d.toNat (el, 0)).x⟩
    · have hbb : (bd != 0) = true := by simpa using hb
      have hac := HACT2.out
      by_cases h25 : k = 25
      · subst h25
        rw [if_pos ⟨hb, rfl⟩] at hac
        have hF : sF = s1.put d (0, bd) := by
          rw [HF.out]; unfold St.opD
          rw [HACT.out, hac]
          rfl
        have HF2 := Lib.hid hF
        clear hF HF hac hb
        go_wp2
        go_region
        go_wp2
        first | go_end0 | refine bodyPost_ret (results_none rfl _ _ _) rfl ?_
        rw [HF2.out]
        exact ⟨rfl, ((HQ6.out.drewN 1).newReg okR d.toNat (0, bd)).x⟩
      · rw [if_neg (fun h => h25 h.2), if_pos hb] at hac
        have hb25 : (k == 25) = false := by simpa using h25
        have hF : sF = s1.trap U bd := by
          rw [HF.out]; unfold St.opD
          rw [HACT.out, hac]
          exact if_pos hb
        have HF2 := Lib.hid hF
        clear hF HF hac hb
        go_wp2_with (go_at_call 80; refine (rtrap_any HG.out HS.out HQ6.out.x _).mono ?_; rintro e w7 ⟨rfl, E3⟩)
        first | go_end0 | refine bodyPost_ret (results_none rfl _ _ _) rfl ?_
        rw [HF2.out]
        exact ⟨rfl, E3⟩
  · have hk := hkn.symm
    obtain ⟨⟨v0, v1⟩, hv⟩ : ∃ v, v = doV0 k n (s1.reg a) (s1.reg b) (s1.reg c) := ⟨_, rfl⟩
    obtain ⟨t, ht⟩ : ∃ t, t = doT0 k (s1.reg a) (s1.reg b) := ⟨_, rfl⟩
    have hd := HDO.out
    rw [if_pos hk, ← hv, ← ht] at hd
    have kd := fun (W : World) => refdo_any k d a b c n g x00 x01 x10 x11 x20 x21 hk HFA.out W
    rw [HXA.out, HXB.out, HXC.out, (opx_known k n (s1.reg a) (s1.reg b) (s1.reg c) hk).1, (opx_known k n (s1.reg a) (s1.reg b) (s1.reg c) hk).2, ← hv, ← ht] at kd
    unfold vl at kd
    simp only at kd
    have KD := Lib.hid kd
    have HD := Lib.hid hd
    clear kd hd hv ht hk hkn
    by_cases ht0 : t = 0
    · subst ht0
      have hF : sF = s1.put d (v0, v1) := by
        rw [HF.out]; unfold St.opD
        rw [HD.out]
        rfl
      have HF2 := Lib.hid hF
      clear hF HF
      go_wp2_with (first
        | (go_at_call 82; (with_reducible refine (KH.out _).mono ?_); rintro x w5 ⟨rfl, rfl⟩)
        | (go_at_call 83; (with_reducible refine (KD.out _).mono ?_); rintro x w5 ⟨rfl, hb5⟩; have HQ5 := Lib.hid (HQ4.out.below hb5); have c6b := (hb5.cell (p := ⟨p, 6, none⟩) lp4).trans c6; have rb0 := (hb5.cell (p := ⟨L.gr, d.toNat * 2, none⟩) lr4).trans rd0; have rb1 := (hb5.cell (p := ⟨L.gr, d.toNat * 2 + 1, none⟩) lr4).trans rd1; have gb0 := HQ5.out.e.regs.frozen (d.toNat * 2); have gb1 := HQ5.out.e.regs.frozen (d.toNat * 2 + 1); have ob1 := (hb5.cell (p := ⟨w.heap.size, 1, none⟩) lw4).trans o1; have lp5 := HQ5.out.e.blk.lt; have lr5 := HQ5.out.e.regs.lt; have lw5 : w.heap.size < w5.heap.size := Nat.lt_of_lt_of_le lw4 hb5.size; clear hb5))
      go_region
      go_wp2
      first | go_end0 | refine bodyPost_ret (results_none rfl _ _ _) rfl ?_
      rw [HF2.out]
      exact ⟨rfl, (((HQ5.out.newReg okR d.toNat (v0, v1)).alloc _).drewN 1).x⟩
    · have hF : sF = s1.trap U t := by
        rw [HF.out]; unfold St.opD
        rw [HD.out, if_pos ht0]
        exact if_pos ht0
      have HF2 := Lib.hid hF
      have htb : (t != 0) = true := by simpa using ht0
      clear hF HF ht0
      go_wp2_with (first
        | (go_at_call 82; (with_reducible refine (KH.out _).mono ?_); rintro x w5 ⟨rfl, rfl⟩)
        | (go_at_call 83; (with_reducible refine (KD.out _).mono ?_); rintro x w5 ⟨rfl, hb5⟩; have HQ5 := Lib.hid (HQ4.out.below hb5); have c6b := (hb5.cell (p := ⟨p, 6, none⟩) lp4).trans c6; have rb0 := (hb5.cell (p := ⟨L.gr, d.toNat * 2, none⟩) lr4).trans rd0; have rb1 := (hb5.cell (p := ⟨L.gr, d.toNat * 2 + 1, none⟩) lr4).trans rd1; have gb0 := HQ5.out.e.regs.frozen (d.toNat * 2); have gb1 := HQ5.out.e.regs.frozen (d.toNat * 2 + 1); have ob1 := (hb5.cell (p := ⟨w.heap.size, 1, none⟩) lw4).trans o1; have lp5 := HQ5.out.e.blk.lt; have lr5 := HQ5.out.e.regs.lt; have lw5 : w.heap.size < w5.heap.size := Nat.lt_of_lt_of_le lw4 hb5.size; clear hb5)
        | (go_at_call 80; refine (rtrap_any HG.out HS.out (HQ5.out.alloc _).x _).mono ?_; rintro e w6 ⟨rfl, E3⟩))
      first | go_end0 | refine bodyPost_ret (results_none rfl _ _ _) rfl ?_
      rw [HF2.out]
      exact ⟨rfl, E3⟩
end Go.Proofs.YtfkjkdoloamakaaDoor
