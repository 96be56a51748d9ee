/- What start of package run leaves, its walk. -/
import Derived.Test.YtfkjkdoloamakaaDoorMf
namespace Go.Proofs.YtfkjkdoloamakaaDoor
open Go.RowKit
set_option linter.unusedVariables false
set_option linter.unusedSimpArgs false
variable {w : World} {U : UnS} {Av Ab : Option Addr} {cv cb : Nat} {F : Nat → Prop}

def engC0 (U : UnS) (us ub : Value) (gs : Nat) : Array Value := #[us, .int .i64 U.params, .int .i64 U.regs, .int .i64 U.code, .int .i64 U.spill, ub, .slice none 0 0, .slice none 0 0, .slice none 0 0, .slice none 0 0, .int .i64 0, .int .i64 0, .int .i64 0, .int .i64 0, .int .i64 0, .slice none 0 0, .slice (some ⟨gs, 0, none⟩) U.blocks.length U.blocks.length]
theorem Fr.drew' {M : Nat → Prop} {a w : World} (h : Fr M a w) : Fr M a w.drew := ⟨h.os, h.tape, h.output, h.size, h.block⟩
theorem StA.mkA {w2 : World} {us ub : Value} {bx : Array Value} (hb : Below (w.alloc (.cells bx 25)).drew.heap.size (w.alloc (.cells bx 25)).drew w2) (hr : RdBlocks (fun b => (w.alloc (.cells bx 25)).drew.heap.size ≤ b) w2 ub U.blocks) :
    ∃ F', StA F' w ((w2.alloc (.cells (cntC (List.replicate U.blocks.length (0, 0, 0))).toArray 68)).alloc (.cells (engC0 U us ub w2.heap.size) 83)) U (w2.heap.size + 1) w2.heap.size us ub ∧ Blk ((w2.alloc (.cells (cntC (List.replicate U.blocks.length (0, 0, 0))).toArray 68)).alloc (.cells (engC0 U us ub w2.heap.size) 83)) w.heap.size 25 bx := by
  have hz := hb.size
  simp only [World.size_drew, World.size_alloc] at hz hr
  have f2 : Fr (fun _ => False) w w2 := (((Fr.refl _ w).alloc _).drew').then_ (Fr.of_below hb)
  have b2 : Blk w2 w.heap.size 25 bx := Blk.fr (M := fun _ => False) (w := (w.alloc (.cells bx 25)).drew) (Blk.new w _ bx) (Fr.of_below hb) not_false
  refine ⟨fun b => w.heap.size + 1 ≤ b ∧ b < w2.heap.size, ⟨(f2.alloc _).alloc _, blk_new _ (by simp) _ _, (Blk.new w2 _ _).alloc _, ?_, fun g hg => ?_, ?_⟩, (b2.alloc _).alloc _⟩
  · exact ((hr.mono (fun g hg hlt => ⟨hg, hlt⟩)).fr (M := fun _ => False) (((Fr.refl _ w2).alloc _).alloc _) fun _ _ => not_false)
  · obtain ⟨h1, h2⟩ := hg
    simp only [World.size_alloc]
    omega
  · omega
theorem StA.mkB {w2 : World} {us ub : Value} {bx : Array Value} (hb : Below ((w.alloc (.cells bx 25)).alloc (.cells (cntC (List.replicate U.blocks.length (0, 0, 0))).toArray 68)).drew.heap.size ((w.alloc (.cells bx 25)).alloc (.cells (cntC (List.replicate U.blocks.length (0, 0, 0))).toArray 68)).drew w2) (hr : RdBlocks (fun b => ((w.alloc (.cells bx 25)).alloc (.cells (cntC (List.replicate U.blocks.length (0, 0, 0))).toArray 68)).drew.heap.size ≤ b) w2 ub U.blocks) :
    ∃ F', StA F' w (w2.alloc (.cells (engC0 U us ub (w.heap.size + 1)) 83)) U w2.heap.size (w.heap.size + 1) us ub ∧ Blk (w2.alloc (.cells (engC0 U us ub (w.heap.size + 1)) 83)) w.heap.size 25 bx := by
  have hz := hb.size
  simp only [World.size_drew, World.size_alloc] at hz hr
  have f2 : Fr (fun _ => False) w w2 := ((((Fr.refl _ w).alloc _).alloc _).drew').then_ (Fr.of_below hb)
  have b2 : Blk w2 w.heap.size 25 bx := Blk.fr (M := fun _ => False) (w := ((w.alloc (.cells bx 25)).alloc (.cells (cntC (List.replicate U.blocks.length (0, 0, 0))).toArray 68)).drew) ((Blk.new w _ bx).alloc _) (Fr.of_below hb) not_false
  have s2 : Blk w2 (w.heap.size + 1) 68 (cntC (List.replicate U.blocks.length (0, 0, 0))).toArray := Blk.fr (M := fun _ => False) (w := ((w.alloc (.cells bx 25)).alloc (.cells (cntC (List.replicate U.blocks.length (0, 0, 0))).toArray 68)).drew) (blk_new (w.alloc (.cells bx 25)) (by simp) _ _) (Fr.of_below hb) not_false
  refine ⟨fun b => w.heap.size + 1 + 1 ≤ b ∧ b < w2.heap.size, ⟨f2.alloc _, blk_new _ rfl _ _, s2.alloc _, ?_, fun g hg => ?_, ?_⟩, b2.alloc _⟩
  · exact ((hr.mono (fun g hg hlt => ⟨hg, hlt⟩)).fr (M := fun _ => False) ((Fr.refl _ w2).alloc _) fun _ _ => not_false)
  · obtain ⟨h1, h2⟩ := hg
    simp only [World.size_alloc]
    omega
  · omega

theorem Blk.drew {g : Nat} {t : TypeId} {cs : Array Value} (h : Blk w g t cs) : Blk w.drew g t cs := h
theorem StA.close {F' : Nat → Prop} {wc : World} {p gs gr gc : Nat} {us ub : Value} {bx xs ys : Array Value} (args : List Int) (h : StA F' w wc U p gs us ub) (hbx : Blk wc w.heap.size 25 bx) (hne : w.heap.size < p)
    (hx : (gr = wc.heap.size ∧ gc = wc.heap.size + 1 ∧ xs = (valC (List.replicate U.regs.toNat (0, 0))).toArray ∧ ys = (valC (List.replicate U.spill.toNat (0, 0))).toArray) ∨ (gr = wc.heap.size + 1 ∧ gc = wc.heap.size ∧ ys = (valC (List.replicate U.regs.toNat (0, 0))).toArray ∧ xs = (valC (List.replicate U.spill.toNat (0, 0))).toArray)) :
    ∃ L, EngQ layP F' w (fun _ => False) ((((wc.setCell ⟨p, 6, none⟩ (.slice (some ⟨gr, 0, none⟩) U.regs.toNat U.regs.toNat)).setCell ⟨p, 7, none⟩ (.slice (some ⟨gc, 0, none⟩) U.spill.toNat U.spill.toNat)).alloc (.cells xs 85)).alloc (.cells ys 85)).drew p U (stK U args 0 0) L ∧
      Blk ((((wc.setCell ⟨p, 6, none⟩ (.slice (some ⟨gr, 0, none⟩) U.regs.toNat U.regs.toNat)).setCell ⟨p, 7, none⟩ (.slice (some ⟨gc, 0, none⟩) U.spill.toNat U.spill.toNat)).alloc (.cells xs 85)).alloc (.cells ys 85)).drew w.heap.size 25 bx := by
  obtain ⟨W0, hW0⟩ : ∃ W0, W0 = (wc.setCell ⟨p, 6, none⟩ (.slice (some ⟨gr, 0, none⟩) U.regs.toNat U.regs.toNat)).setCell ⟨p, 7, none⟩ (.slice (some ⟨gc, 0, none⟩) U.spill.toNat U.spill.toNat) := ⟨_, rfl⟩
  rw [← hW0]
  have hs0 : W0.heap.size = wc.heap.size := by rw [hW0]; simp
  have hf0 : Fr (fun b => b = p) wc W0 := by rw [hW0]; exact Fr.two _ _ _ _ _ _
  have hf : Fr (fun b => b = p) wc ((W0.alloc (.cells xs 85)).alloc (.cells ys 85)).drew := ((hf0.alloc _).alloc _).drew'
  have hp := (h.eng.set_ 6 (.slice (some ⟨gr, 0, none⟩) U.regs.toNat U.regs.toNat)).set_ 7 (.slice (some ⟨gc, 0, none⟩) U.spill.toNat U.spill.toNat)
  rw [← hW0] at hp
  have hp' := ((hp.alloc (.cells xs 85)).alloc (.cells ys 85)).drew
  have bX : Blk ((W0.alloc (.cells xs 85)).alloc (.cells ys 85)).drew wc.heap.size 85 xs := ((blk_new W0 hs0.symm _ xs).alloc _).drew
  have bY : Blk ((W0.alloc (.cells xs 85)).alloc (.cells ys 85)).drew (wc.heap.size + 1) 85 ys := (blk_new (W0.alloc (.cells xs 85)) (by simp [hs0]) _ ys).drew
  refine ⟨{ us := us, ub := ub, va := .slice none 0 0, vp := .slice none 0 0, vw := .slice none 0 0, gr := gr, gc := gc, gs := gs, ga := [] }, ?_, (hbx.fr hf (fun e => by have e' : w.heap.size = p := e; omega))⟩
  rcases hx with ⟨rfl, rfl, rfl, rfl⟩ | ⟨rfl, rfl, rfl, rfl⟩
  · exact h.engQ args hf (Nat.le_refl _) (Nat.le_succ _) (by omega) hp' bX bY
  · exact h.engQ args hf (Nat.le_succ _) (Nat.le_refl _) (by omega) hp' bY bX
set_option maxRecDepth 100000 in
set_option maxHeartbeats 8000000 in
theorem start_any (hs : Row F w (.slice Av U.sizes.length cv) U.sizes.length 1 (numV U.sizes)) (hr : RdBlocks F w (.slice Ab U.blocks.length cb) U.blocks) (hF : ∀ g, F g → g < w.heap.size) (G : UnGood U) (args : List Int) (Aa : Option Addr) (ca : Nat) (hA : Row F w (.slice Aa args.length ca) args.length 1 (numV args)) (hal : (args.length : Int) ≤ U.regs) (ha8 : args.length ≤ 8) :
    Calls Tryd.prog 76 #[unV U Av cv Ab cb, .slice Aa args.length ca] w fun e w' => ∃ F' p, e = .returned (.pointer (some ⟨p, 0, none⟩)) ∧ EngX layP F' w (fun _ => False) w' p U (St.init U args) := by
  have hnb := G.nb
  have hmb := G.mb
  have hr1 := G.r1
  have hr2 := G.r2
  have hsp := G.sp
  have hsp2 := G.sp2
  have hns := G.ns
  have mk1 := fun W => make_cnt U.blocks.length (by omega) W
  have mk2 := fun W => make_val U.regs (by omega) (by omega) W
  have mk3 := fun W => make_val U.spill (by omega) (by omega) W
  have HC := Lib.hid (fun (W : World) (hb : Below w.heap.size w W) => copy_ok (w := W) (hs.fr (M := fun _ => False) (Fr.of_below hb) fun _ _ => not_false) (hr.fr (M := fun _ => False) (Fr.of_below hb) fun _ _ => not_false) (fun g hg => Nat.lt_of_lt_of_le (hF g hg) hb.size) G.nb G.mb G.ns (fun b hb => (G.bls b hb).len))
  have HG := Lib.hid G
  have HS := Lib.hid hs
  have HA := Lib.hid hA
  clear G hs hr hF hA
  unfold unV at *
  go_enter Tryd.func76, Tryd.ntmps76
  go_upto_region 1 with fail
  go_cut [5] (fun v wc => ∃ (F' : Nat → Prop) (p gs : Nat) (us ub : Value), v = .pointer (some ⟨p, 0, none⟩) ∧ StA F' w wc U p gs us ub ∧ Blk wc w.heap.size 25 #[.slice Av U.sizes.length cv, .int .i64 U.params, .int .i64 U.regs, .int .i64 U.code, .int .i64 U.spill, .slice Ab U.blocks.length cb] ∧ w.heap.size < p)
  case first =>
    go_region_with (first
      | (go_at_call 96; refine (HC.out _ ?zx).mono ?_; (case zx => (repeat' (first | with_reducible exact Below.refl _ _ | with_reducible refine Below.drew ?_ | with_reducible refine Below.alloc ?_ ?_ _ | exact Nat.le_refl _ | (simp; done)))); rintro e w2 ⟨A1, c1, g2, c2, rfl, hr2, hb2⟩; (have kz := hb2.size); (try simp only [World.size_alloc, World.size_drew] at kz); have k5 : w2.cell? ⟨w.heap.size, 5, none⟩ = some (.slice Ab U.blocks.length cb) := (hb2.cell (p := ⟨w.heap.size, 5, none⟩) ?za).trans ?zb; (case za => first | (simp; done) | (simp; omega) | omega); (case zb => first | assumption | (simp [go_sem]; done)); have HR2 := Lib.hid hr2; have HB2 := Lib.hid hb2; clear hr2 hb2))
    all_goals
      go_wp2_with fail
      go_meet
      first
        | (obtain ⟨F', x1, x2⟩ := StA.mkA (us := .slice A1 U.sizes.length c1) HB2.out HR2.out; exact ⟨F', _, _, _, _, rfl, x1, x2, by have := HB2.out.size; simp at this; omega⟩)
        | (obtain ⟨F', x1, x2⟩ := StA.mkB (us := .slice A1 U.sizes.length c1) HB2.out HR2.out; exact ⟨F', _, _, _, _, rfl, x1, x2, by have := HB2.out.size; simp at this; omega⟩)
        | trace_state
  case rest =>
    obtain ⟨F', p, gs, us, ub, rfl, hst, hbx, hp⟩ := hcut
    have q0 : wc.cell? ⟨w.heap.size, 0, none⟩ = some (.slice Av U.sizes.length cv) := (hbx.cell 0).trans rfl
    have q2 : wc.cell? ⟨w.heap.size, 2, none⟩ = some (.int .i64 U.regs) := (hbx.cell 2).trans rfl
    have q4 : wc.cell? ⟨w.heap.size, 4, none⟩ = some (.int .i64 U.spill) := (hbx.cell 4).trans rfl
    have e6 : wc.cell? ⟨p, 6, none⟩ = some (.slice none 0 0) := (hst.eng.cell 6).trans rfl
    have e7 : wc.cell? ⟨p, 7, none⟩ = some (.slice none 0 0) := (hst.eng.cell 7).trans rfl
    have y6 := hst.eng.frozen 6
    have y7 := hst.eng.frozen 7
    have lp := hst.eng.lt
    have np : p ≠ wc.heap.size := by omega
    have np' := np.symm
    have np1 : p ≠ wc.heap.size + 1 := by omega
    have np1' := np1.symm
    have nb := hbx.lt
    have HST := Lib.hid hst
    have HBX := Lib.hid hbx
    clear hst hbx
    go_upto_region 2 with fail
    go_cut [18, 19, 20, 21, 22, 23, 24, 25, 26, 27, 28, 29, 30, 31] (fun v18 v19 v20 v21 v22 v23 v24 v25 v26 v27 v28 v29 v30 v31 wd => ∃ L, EngQ layP F' w (fun _ => False) wd p U (stK U args 0 0) L ∧ Blk wd w.heap.size 25 #[.slice Av U.sizes.length cv, .int .i64 U.params, .int .i64 U.regs, .int .i64 U.code, .int .i64 U.spill, .slice Ab U.blocks.length cb])
    case first =>
      go_region
      all_goals
        go_wp2_with fail
        go_meet
        first
          | exact StA.close args HST.out HBX.out hp (.inl ⟨rfl, rfl, rfl, rfl⟩)
          | exact StA.close args HST.out HBX.out hp (.inr ⟨rfl, rfl, rfl, rfl⟩)
    case rest =>
      obtain ⟨L, hq, hbx⟩ := hcut
      have q0 : wc.cell? ⟨w.heap.size, 0, none⟩ = some (.slice Av U.sizes.length cv) := (hbx.cell 0).trans rfl
      have HQ0 := Lib.hid hq
      obtain ⟨i0, hi, hz0, hz1, hz2⟩ := info_parts inf_arr
      clear hq hbx HST HBX
      go_wp2
      go_loopw [35] (fun v wr => ∃ k : Nat, k ≤ U.sizes.length ∧ v = .int .i64 k ∧ ∃ L, EngQ layP F' w (fun _ => False) wr p U (stK U args k 0) L) (fun v _ => U.sizes.length - (intOf v).toNat)
      case atStart => exact ⟨0, Nat.zero_le _, rfl, L, HQ0.out⟩
      case round =>
        obtain ⟨k, hk, rfl, L1, Q⟩ := hrel
        by_cases hlt : k < U.sizes.length
        · have hsr := HS.out.fr Q.f (fun _ _ => not_false)
          obtain ⟨_, A0, c0, e0, _, _, hh⟩ := hsr
          obtain ⟨g0, o0, eA, _, _, hc⟩ := hh (by omega)
          have hck := hc k _ (by simp [numV, hlt]; rfl)
          injection e0 with e1 _ e2
          rw [eA] at e1
          subst e1
          subst e2
          have hnk := HG.out.sz _ (List.getElem_mem hlt)
          obtain ⟨n, hn⟩ : ∃ n, n = U.sizes[k] := ⟨_, rfl⟩
          rw [← hn] at hck hnk
          have mk := fun W => make_i64 n (by omega) (by omega) W
          have hal1 := stK_arrs U args k 0 hk
          obtain ⟨A, c, hva⟩ := own_shape Q.e.arrs
          rw [hal1] at hva
          have h8 := P8 Q.e
          rw [hva] at h8
          have f8 := Q.e.blk.frozen 8
          have lp1 : p < wr.heap.size := Q.e.blk.lt
          have np1 : p ≠ wr.heap.size := by omega
          have np1' := np1.symm
          have np2 : p ≠ wr.heap.size + 1 := by omega
          have np2' := np2.symm
          have lp2 : p < wr.heap.size + 1 := by omega
          have lp3 : p < wr.heap.size + 1 + 1 := by omega
          have lp4 : p < wr.heap.size + 2 := by omega
          have HVA := Lib.hid hva
          have HQ := Lib.hid Q
          have HN := Lib.hid hn
          have HAL := Lib.hid hal1
          have hk16 : k ≤ 16 := by omega
          obtain ⟨hn1, hn2⟩ := hnk
          clear hva Q hn hal1 hh hc eA
          go_wp2
          go_region_law ((refine step_append_own rfl (.tmp 44) (.tmp 47) 64 rfl 0 26 i0 (.slice none 0 0) 1 24 Tryd.underlying64 hi hz0 hz1 hz2 rfl (by decide) (.slice A k c) k (arrV L1.ga (stK U args k 0).arrs) rfl ?co ⟨wr.heap.size + 1, 0, none⟩ 1 1 [.slice (some ⟨wr.heap.size, 0, none⟩) n.toNat n.toNat] rfl rfl ?c1 ?c2 ?c3 ?c4 ?c5 ?_; (case co => (rw [← HVA.out]; have h := (((HQ.out.alloc (.cells (numV (List.replicate n.toNat 0)).toArray 2)).alloc (.cells #[.slice (some ⟨wr.heap.size, 0, none⟩) n.toNat n.toNat] 26)).drewN 1).e.arrs; rw [HAL.out] at h; exact h)); (case c1 => exact cell_new _ _ (by simp) _ _); (case c2 => exact one_mem rfl); (case c3 => (unfold maxLen; omega)); (case c4 => omega); (case c5 => exact Nat.zero_le _); intro v' w1 hown1 hg1 hat1; obtain ⟨A1, cc1, rfl⟩ := own_shape hown1; rw [← HVA.out] at hg1 hat1; have hp1 := (((HQ.out.alloc (.cells (numV (List.replicate n.toNat 0)).toArray 2)).alloc (.cells #[.slice (some ⟨wr.heap.size, 0, none⟩) n.toNat n.toNat] 26)).drewN 1).e.blk_arrs okP hg1; have c81 : w1.cell? ⟨p, 8, none⟩ = some L1.va := (hp1.cell 8).trans rfl; have f81 := hp1.frozen 8; have HO1 := Lib.hid hown1; have HG1 := Lib.hid hg1; have HA1 := Lib.hid hat1; clear hown1 hg1 hat1 hp1))
          all_goals
            go_wp2
            go_roundw
            case rel =>
              refine ⟨k + 1, by omega, by go_num, { L1 with va := .slice A1 (k + 1) cc1, ga := L1.ga ++ [wr.heap.size] }, ?_⟩
              have hx := EngQ.newArrs (l := List.replicate n.toNat 0) (g := wr.heap.size) (n := k + 1) (v := .slice A1 (k + 1) cc1) okP (((HQ.out.alloc (.cells (numV (List.replicate n.toNat 0)).toArray 2)).alloc (.cells #[.slice (some ⟨wr.heap.size, 0, none⟩) n.toNat n.toNat] 26)).drewN 1) (((Blk.new wr _ _).alloc _).drewN 1) (fun h => Nat.lt_irrefl _ (HQ.out.e.mlt (.inr (.inr (.inr (.inr (.inr (.inr (.inr h))))))))) (fun h => Nat.lt_irrefl _ (HQ.out.e.mlt (.inr (.inr (.inr (.inr (.inr (.inl h)))))))) (fun h => Nat.lt_irrefl _ (HQ.out.e.flt _ h)) (.inr HQ.out.f.size) (by rw [HAL.out]) HG1.out (by rw [List.length_replicate]; exact HO1.out) (HA1.out.elim .inl (fun h => .inr ⟨_, h, Nat.le_refl _⟩))
              rw [HN.out, stK_arr U args k 0 hlt] at hx
              exact hx
            case measure => simp [intOf]; omega
        · obtain rfl : k = U.sizes.length := by omega
          have HQ1 := Lib.hid Q
          clear Q
          rename World => wo
          go_wp2
          go_loopw [55] (fun v wr => ∃ k : Nat, k ≤ args.length ∧ v = .int .i64 k ∧ ∃ L, EngQ layP F' w (fun _ => False) wr p U (stK U args U.sizes.length k) L) (fun v _ => args.length - (intOf v).toNat)
          case atStart => exact ⟨0, Nat.zero_le _, rfl, L1, HQ1.out⟩
          case round =>
            obtain ⟨k, hk, rfl, L2, Q⟩ := hrel
            by_cases hlt : k < args.length
            · have hsr := HA.out.fr Q.f (fun _ _ => not_false)
              obtain ⟨_, A0, c0, e0, _, _, hh⟩ := hsr
              obtain ⟨g0, o0, eA, _, _, hc⟩ := hh (by omega)
              have hck := hc k _ (by simp [numV, hlt]; rfl)
              injection e0 with e1 _ e2
              rw [eA] at e1
              subst e1
              subst e2
              obtain ⟨n, hn⟩ : ∃ n, n = args[k] := ⟨_, rfl⟩
              rw [← hn] at hck
              have hrl := stK_regs U args U.sizes.length k hk hal
              have h6 := P6 Q.e
              rw [hrl] at h6
              have kr : (k : Int) < U.regs.toNat := by omega
              obtain ⟨r0, hr0⟩ : ∃ r0, (wr.cell? ⟨L2.gr, k * 2, none⟩ = some r0) := ⟨_, reg0 Q.e (r := k) (by omega) (by rw [hrl]; omega)⟩
              have f0 := Q.e.regs.frozen (k * 2)
              have HQ := Lib.hid Q
              have HN := Lib.hid hn
              have HRL := Lib.hid hrl
              clear Q hn hrl hh hc eA
              go_wp2
              go_roundw
              case rel =>
                refine ⟨k + 1, by omega, by go_num, L2, ?_⟩
                have hx := EngQ.newReg0 okP HQ.out k (by rw [HRL.out]; omega) n
                rw [HN.out, stK_reg U args U.sizes.length k hlt hal] at hx
                rw [HN.out]
                exact hx
              case measure => simp [intOf]; omega
            · obtain rfl : k = args.length := by omega
              have hsl := Q.e.seen
              have HQ := Lib.hid Q
              clear Q hsl
              go_wp2_with (go_at_call 97; refine (enter_any HQ.out.x 0 (Int.le_refl _) ?z1 ?z2).mono ?_; (case z1 => (simp [stK]; omega)); (case z2 => (simp [stK])); rintro e w' ⟨rfl, E⟩)
              go_ret
              exact ⟨F', p, rfl, by rw [← stK_init]; exact E⟩
end Go.Proofs.YtfkjkdoloamakaaDoor
