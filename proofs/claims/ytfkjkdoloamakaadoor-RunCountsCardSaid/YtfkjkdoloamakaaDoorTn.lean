/- New of the specification: the state is St.init. -/
import Derived.Test.YtfkjkdoloamakaaDoorTk
import Derived.Test.YtfkjkdoloamakaaDoorQg
import Derived.Test.YtfkjkdoloamakaaDoorMg
namespace Go.Proofs.YtfkjkdoloamakaaDoor
open Go.RowKit
set_option linter.unusedVariables false
set_option linter.unusedSimpArgs false
variable {w : World} {U : UnS} {Av Ab : Option Addr} {cv cb : Nat} {F : Nat → Prop}

/-- the layout before the Outcome's kind is set -/
def layR0 : Lay where
  ty := 66
  cells L U s := #[L.us, .int .i64 U.params, .int .i64 U.regs, .int .i64 U.code, .int .i64 U.spill, L.ub, ownRow L.gr s.regs.length, L.va, ownRow L.gc s.kept.length, .int .i64 s.bl, .int .i64 s.pc, .int .i64 s.steps, L.vp, .int .i64 0, .int .i64 s.val, .bool false, ownRow L.gs s.seen.length, L.vw]
  iP := 12
  iW := 17
  iA := 7
theorem okR0 : LayOk layR0 where
  eq := by intro L U s s' h1 h2 h3 h4 h5 h6 h7 h8; simp only [layR0, h1, h2, h3, h4, h5, h6, h7, h8]
  vp := fun _ _ _ _ => rfl
  vw := fun _ _ _ _ => rfl
  va := fun _ _ _ _ _ => rfl
  t1 := by decide
  t2 := by decide
  t3 := by decide
  t4 := by decide
  t5 := by decide
/-- the Outcome's kind is set -/
theorem EngQ.kindR {w0 w : World} {M0 : Nat → Prop} {p : Nat} {s : St} {L : EngL} (h : EngQ layR0 F w0 M0 w p U s L) (hk : s.kind = 0) : EngQ layR F w0 M0 (w.setCell ⟨p, 13, none⟩ (.int .i64 3)) p U s L := by
  have hf : Fr (fun b => b = p) w (w.setCell ⟨p, 13, none⟩ (.int .i64 3)) := Fr.one _ _ _ _
  have E := h.e
  have hB : Blk (w.setCell ⟨p, 13, none⟩ (.int .i64 3)) p 66 (layR.cells L U s) := by
    have hb := E.blk.set_ 13 (.int .i64 3)
    have e : layR.cells L U s = (layR0.cells L U s).setIfInBounds 13 (.int .i64 3) := by
      have e1 : kindO s.kind = 3 := by rw [hk]; rfl
      have e2 : decide (s.kind ≠ 0) = false := decide_eq_false (fun h => h hk)
      simp only [layR, layR0, e1, e2]; rfl
    rw [e]; exact hb
  refine ⟨?_, h.f.trans hf (fun i hi => by subst hi; exact h.m _ (.inl rfl)), h.m⟩
  exact
    { blk := hB, regs := E.regs.fr hf (E.blk.ne_ E.regs okR0.t1).symm, kept := E.kept.fr hf (E.blk.ne_ E.kept okR0.t1).symm, seen := E.seen.fr hf (E.blk.ne_ E.seen okR0.t2).symm,
      arrs := own_fr E.arrs hf fun k hk e => own_blk_ne E.arrs E.blk okR0.t3.symm (by rw [hk, e]), ga := E.ga,
      inner := fun j hj => (E.inner j hj).fr hf (E.blk.ne_ (E.inner j hj) okR0.t4).symm,
      prints := own_fr E.prints hf fun k hk e => own_blk_ne E.prints E.blk okR0.t4.symm (by rw [hk, e]), ways := own_fr E.ways hf fun k hk e => own_blk_ne E.ways E.blk okR0.t5.symm (by rw [hk, e]),
      code := E.code.fr hf fun g hg e => E.away g hg (.inl e), rc := E.rc, ap := E.ap, aa := E.aa, away := E.away, flt := fun g hg => Nat.lt_of_lt_of_le (E.flt g hg) hf.size }
theorem keep3 {W : World} {a : Addr} {v : Value} (h : W.cell? a = some v) (hl : a.block < W.heap.size) (o1 o2 o3 : Obj) : (((W.alloc o1).alloc o2).alloc o3).drew.cell? a = some v :=
  ((((Below.refl W.heap.size W).alloc (Nat.le_refl _) o1).alloc (by simp) o2).alloc (by simp; omega) o3).drew.cell hl |>.trans h
theorem keep4 {W : World} {a : Addr} {v : Value} (h : W.cell? a = some v) (hl : a.block < W.heap.size) (o1 o2 o3 o4 : Obj) : ((((W.alloc o1).alloc o2).alloc o3).alloc o4).drew.cell? a = some v :=
  (((((Below.refl W.heap.size W).alloc (Nat.le_refl _) o1).alloc (by simp) o2).alloc (by simp; omega) o3).alloc (by simp; omega) o4).drew.cell hl |>.trans h
theorem bel4 (W : World) (o1 o2 o3 o4 : Obj) : Below W.heap.size W ((((W.alloc o1).alloc o2).alloc o3).alloc o4).drew :=
  (((((Below.refl W.heap.size W).alloc (Nat.le_refl _) o1).alloc (by simp) o2).alloc (by simp; omega) o3).alloc (by simp; omega) o4).drew
theorem keepB4 {W : World} {g : Nat} {t : TypeId} {cs : Array Value} (h : Blk W g t cs) (o1 o2 o3 o4 : Obj) : Blk ((((W.alloc o1).alloc o2).alloc o3).alloc o4).drew g t cs :=
  h.fr (Fr.of_below (M := fun _ => False) (bel4 W o1 o2 o3 o4)) not_false
theorem b1 (W : World) (t : TypeId) (cs : Array Value) (o2 o3 o4 : Obj) : Blk ((((W.alloc (.cells cs t)).alloc o2).alloc o3).alloc o4).drew W.heap.size t cs := (((blk_new W rfl t cs).alloc _).alloc _).alloc _
theorem b2 (W : World) (t : TypeId) (cs : Array Value) (o1 o3 o4 : Obj) : Blk ((((W.alloc o1).alloc (.cells cs t)).alloc o3).alloc o4).drew (W.heap.size + 1) t cs := ((blk_new (W.alloc o1) (by simp) t cs).alloc _).alloc _
theorem b3 (W : World) (t : TypeId) (cs : Array Value) (o1 o2 o4 : Obj) : Blk ((((W.alloc o1).alloc o2).alloc (.cells cs t)).alloc o4).drew (W.heap.size + 1 + 1) t cs := (blk_new ((W.alloc o1).alloc o2) (by simp) t cs).alloc _
theorem b4 (W : World) (t : TypeId) (cs : Array Value) (o1 o2 o3 : Obj) : Blk ((((W.alloc o1).alloc o2).alloc o3).alloc (.cells cs t)).drew (W.heap.size + 1 + 1 + 1) t cs := blk_new (((W.alloc o1).alloc o2).alloc o3) (by simp) t cs
theorem newE {W wx : World} {p gr gc gs : Nat} (args : List Int) (hw : w.heap.size ≤ W.heap.size) (hwf : Fr (fun _ => False) w W) (hb : Below W.heap.size W wx)
    (hp : Blk wx p 66 #[.slice Av U.sizes.length cv, .int .i64 U.params, .int .i64 U.regs, .int .i64 U.code, .int .i64 U.spill, .slice Ab U.blocks.length cb, ownRow gr U.regs.toNat, .slice none 0 0, ownRow gc U.spill.toNat, .int .i64 0, .int .i64 0, .int .i64 0, .slice none 0 0, .int .i64 0, .int .i64 0, .bool false, ownRow gs U.blocks.length, .slice none 0 0])
    (hr : Blk wx gr 85 (valC (List.replicate U.regs.toNat (0, 0))).toArray) (hc : Blk wx gc 85 (valC (List.replicate U.spill.toNat (0, 0))).toArray) (hs : Blk wx gs 68 (cntC (List.replicate U.blocks.length (0, 0, 0))).toArray)
    (hne : gr ≠ gc) (u1 : W.heap.size ≤ p) (u2 : W.heap.size ≤ gr) (u3 : W.heap.size ≤ gc) (u4 : W.heap.size ≤ gs)
    (hu : RdBlocks F w (.slice Ab U.blocks.length cb) U.blocks) (hF : ∀ g, F g → g < w.heap.size) :
    EngQ layR0 F w (fun _ => False) wx p U (stK U args 0 0) { us := .slice Av U.sizes.length cv, ub := .slice Ab U.blocks.length cb, va := .slice none 0 0, vp := .slice none 0 0, vw := .slice none 0 0, gr := gr, gc := gc, gs := gs, ga := [] } := by
  have e1 : regsK U.regs.toNat args 0 = List.replicate U.regs.toNat (0, 0) := regsK_zero _ _
  have hfx : Fr (fun _ => False) w wx := hwf.then_ (Fr.of_below hb)
  refine ⟨?_, hfx, fun b hb => .inr ?_⟩
  · exact
      { blk := by simp only [layR0, stK, e1, List.length_replicate]; exact hp
        regs := by simp only [stK, e1]; exact hr
        kept := hc
        seen := hs
        arrs := ownsRow_nil _ _ _
        ga := rfl
        inner := fun j hj => absurd hj (by simp [stK])
        prints := ownsRow_nil _ _ _
        ways := ownsRow_nil _ _ _
        code := hu.fr hfx fun _ _ => not_false
        rc := hne
        ap := fun g hg => absurd hg (by simp)
        aa := List.nodup_nil
        away := fun g hg hM => by
          have := hF g hg
          rcases hM with e | e | e | e | e | e | e | e
          · have e' : g = p := e; omega
          · have e' : g = gr := e; omega
          · have e' : g = gc := e; omega
          · have e' : g = gs := e; omega
          · cases e
          · cases e
          · cases e
          · cases e
        flt := fun g hg => Nat.lt_of_lt_of_le (hF g hg) hfx.size }
  · rcases hb with e | e | e | e | e | e | e | e
    · have e' : b = p := e; omega
    · have e' : b = gr := e; omega
    · have e' : b = gc := e; omega
    · have e' : b = gs := e; omega
    · cases e
    · cases e
    · cases e
    · cases e
section
variable {w0 : World} {M0 : Nat → Prop} {p : Nat} {s : St} {L : EngL} (h : Eng layR0 F w p U s L)
include h
theorem Z6 : w.cell? ⟨p, 6, none⟩ = some (.slice (some ⟨L.gr, 0, none⟩) s.regs.length s.regs.length) := (h.blk.cell 6).trans rfl
theorem Z7 : w.cell? ⟨p, 7, none⟩ = some L.va := (h.blk.cell 7).trans rfl
theorem Z13 : w.cell? ⟨p, 13, none⟩ = some (.int .i64 0) := (h.blk.cell 13).trans rfl
end

set_option maxRecDepth 100000 in
set_option maxHeartbeats 8000000 in
theorem rnew_any (hu : UnIn F w U Av cv Ab cb) (G : UnGood U) (args : List Int) (Aa : Option Addr) (ca : Nat) (hA : Row (fun g => g < w.heap.size) w (.slice Aa args.length ca) args.length 1 (numV args)) (hal : (args.length : Int) ≤ U.regs) (ha8 : args.length ≤ 8) :
    Calls Tryd.prog 26 #[unV U Av cv Ab cb, .slice Aa args.length ca] w fun e w' => ∃ p, e = .returned (.pointer (some ⟨p, 0, none⟩)) ∧ EngX layR F w (fun _ => False) w' p U (St.init U args) := by
  have hnb := G.nb
  have hmb := G.mb
  have hr1 := G.r1
  have hr2 := G.r2
  have hsp := G.sp
  have hsp2 := G.sp2
  have hns := G.ns
  have mk1 := fun W => make_cnt U.blocks.length (by omega) W
  have mk2 := fun W => make_val U.regs (by omega) (by omega) W
  have mk3 := fun W => make_val U.spill (by omega) (by omega) W
  obtain ⟨W0, hW0⟩ : ∃ W0, W0 = w.alloc (.cells #[.slice Av U.sizes.length cv, .int .i64 U.params, .int .i64 U.regs, .int .i64 U.code, .int .i64 U.spill, .slice Ab U.blocks.length cb] 25) := ⟨_, rfl⟩
  have hb0 : Below w.heap.size w W0 := by rw [hW0]; exact (Below.refl _ _).alloc (Nat.le_refl _) _
  have hbx : Blk W0 w.heap.size 25 #[.slice Av U.sizes.length cv, .int .i64 U.params, .int .i64 U.regs, .int .i64 U.code, .int .i64 U.spill, .slice Ab U.blocks.length cb] := by rw [hW0]; exact blk_new w rfl _ _
  have q0 : W0.cell? ⟨w.heap.size, 0, none⟩ = some (.slice Av U.sizes.length cv) := (hbx.cell 0).trans rfl
  have q1 : W0.cell? ⟨w.heap.size, 1, none⟩ = some (.int .i64 U.params) := (hbx.cell 1).trans rfl
  have q2 : W0.cell? ⟨w.heap.size, 2, none⟩ = some (.int .i64 U.regs) := (hbx.cell 2).trans rfl
  have q3 : W0.cell? ⟨w.heap.size, 3, none⟩ = some (.int .i64 U.code) := (hbx.cell 3).trans rfl
  have q4 : W0.cell? ⟨w.heap.size, 4, none⟩ = some (.int .i64 U.spill) := (hbx.cell 4).trans rfl
  have q5 : W0.cell? ⟨w.heap.size, 5, none⟩ = some (.slice Ab U.blocks.length cb) := (hbx.cell 5).trans rfl
  have lw0 : w.heap.size < W0.heap.size := hbx.lt
  have lw1 : w.heap.size < W0.heap.size + 1 := by omega
  have lw2 : w.heap.size < W0.heap.size + 1 + 1 := by omega
  have lw3 : w.heap.size < W0.heap.size + 2 := by omega
  have lw4 : w.heap.size < W0.heap.size + 1 + 1 + 1 := by omega
  have lw5 : w.heap.size < W0.heap.size + 3 := by omega
  have nw0 : w.heap.size ≠ W0.heap.size := by omega
  have nw1 : w.heap.size ≠ W0.heap.size + 1 := by omega
  have nw2 : w.heap.size ≠ W0.heap.size + 1 + 1 := by omega
  have nw3 : w.heap.size ≠ W0.heap.size + 2 := by omega
  have HB0 := Lib.hid hb0
  have HW0 := Lib.hid hW0
  have HBX := Lib.hid hbx
  have HG := Lib.hid G
  have HU := Lib.hid hu
  have HA := Lib.hid hA
  clear G hu hA hb0 hW0 hbx
  unfold unV
  go_enter Tryd.func26, Tryd.ntmps26
  go_upto_region 1 with fail
  rw [← HW0.out]
  go_cut [5] from 8 to 20 (fun v5 wx => ∃ (p : Nat) (L : EngL), v5 = .pointer (some ⟨p, 0, none⟩) ∧ EngQ layR0 F w (fun _ => False) wx p U (stK U args 0 0) L ∧ Blk wx w.heap.size 25 #[.slice Av U.sizes.length cv, .int .i64 U.params, .int .i64 U.regs, .int .i64 U.code, .int .i64 U.spill, .slice Ab U.blocks.length cb] ∧ w.heap.size < p)
  case first =>
    go_region_held3 (fun w' => w'.cell? ⟨w.heap.size, 0, none⟩ = some (.slice Av U.sizes.length cv) ∧ w'.cell? ⟨w.heap.size, 1, none⟩ = some (.int .i64 U.params) ∧ w'.cell? ⟨w.heap.size, 2, none⟩ = some (.int .i64 U.regs) ∧ w'.cell? ⟨w.heap.size, 3, none⟩ = some (.int .i64 U.code) ∧ w'.cell? ⟨w.heap.size, 4, none⟩ = some (.int .i64 U.spill) ∧ w'.cell? ⟨w.heap.size, 5, none⟩ = some (.slice Ab U.blocks.length cb)) (first | exact ⟨q0, q1, q2, q3, q4, q5⟩ | with_reducible exact ⟨keep3 q0 lw0 _ _ _, keep3 q1 lw0 _ _ _, keep3 q2 lw0 _ _ _, keep3 q3 lw0 _ _ _, keep3 q4 lw0 _ _ _, keep3 q5 lw0 _ _ _⟩ | with_reducible exact ⟨keep4 q0 lw0 _ _ _ _, keep4 q1 lw0 _ _ _ _, keep4 q2 lw0 _ _ _ _, keep4 q3 lw0 _ _ _ _, keep4 q4 lw0 _ _ _ _, keep4 q5 lw0 _ _ _ _⟩ | (go_keep; done)) (first | fail)
    all_goals
      go_wp2
      go_meet
      exact ⟨_, _, rfl, newE (W := W0) args HB0.out.size (Fr.of_below HB0.out) (bel4 _ _ _ _ _) (b4 _ _ _ _ _ _) (by first | exact b1 _ _ _ _ _ _ | exact b2 _ _ _ _ _ _ | exact b3 _ _ _ _ _ _) (by first | exact b1 _ _ _ _ _ _ | exact b2 _ _ _ _ _ _ | exact b3 _ _ _ _ _ _) (by first | exact b1 _ _ _ _ _ _ | exact b2 _ _ _ _ _ _ | exact b3 _ _ _ _ _ _) (by omega) (by omega) (by omega) (by omega) (by omega) HU.out.hr HU.out.hF, keepB4 HBX.out _ _ _ _, by omega⟩
  case rest =>
    obtain ⟨p, L, rfl, hq, hbx, hlp⟩ := hcut
    have HQ0 := Lib.hid hq
    have HBX2 := Lib.hid hbx
    clear hq hbx q0 q1 q2 q3 q4 q5
    go_wp2
    go_loopw [6] (fun v wz => ∃ k : Nat, k ≤ args.length ∧ v = .int .i64 k ∧ (∃ L, EngQ layR0 F w (fun _ => False) wz p U (stK U args 0 k) L) ∧ Blk wz w.heap.size 25 #[.slice Av U.sizes.length cv, .int .i64 U.params, .int .i64 U.regs, .int .i64 U.code, .int .i64 U.spill, .slice Ab U.blocks.length cb]) (fun v _ => args.length - (intOf v).toNat)
    case atStart => exact ⟨0, Nat.zero_le _, rfl, ⟨L, HQ0.out⟩, HBX2.out⟩
    case round =>
      obtain ⟨k, hk, rfl, ⟨L2, Q⟩, hbx⟩ := hrel
      rename World => wr
      by_cases hlt : k < args.length
      · have hsr := HA.out.fr Q.f (fun _ _ => not_false)
        obtain ⟨g0, o0, rfl, _, _, hc⟩ := rowi_at hsr hlt
        obtain ⟨n, hn⟩ : ∃ n, n = args[k] := ⟨_, rfl⟩
        have hck : wr.cell? ⟨g0, o0 + k, none⟩ = some (.int .i64 n) := hc _ (by simp [numV, hlt, hn])
        have hrl := stK_regs U args 0 k hk hal
        have h6 := Z6 Q.e
        rw [hrl] at h6
        have kr : (k : Int) < U.regs.toNat := by omega
        obtain ⟨r0, hr0⟩ : ∃ r0, (wr.cell? ⟨L2.gr, k * 2, none⟩ = some r0) := ⟨_, reg0 Q.e (r := k) (by omega) (by rw [hrl]; omega)⟩
        have f0 := Q.e.regs.frozen (k * 2)
        have ngr : w.heap.size ≠ L2.gr := by
          have h1 : Blk wr L2.gr 85 _ := Q.e.regs
          exact hbx.ne_ h1 (by decide)
        have HQ := Lib.hid Q
        have HN := Lib.hid hn
        have HRL := Lib.hid hrl
        have HBX3 := Lib.hid hbx
        clear Q hn hrl hc hbx hsr
        go_wp2
        go_region
        go_wp2
        go_roundw
        case rel =>
          have hx := EngQ.newReg0 okR0 (HQ.out.drewN 1) k (by rw [HRL.out]; omega) n
          rw [HN.out, stK_reg U args 0 k hlt hal] at hx
          refine ⟨k + 1, by omega, by go_num, ⟨L2, ?_⟩, HBX3.out.far (p := ⟨L2.gr, k * 2, none⟩) ngr _⟩
          rw [HN.out]
          exact hx
        case measure => simp [intOf]; omega
      · obtain rfl : k = args.length := by omega
        have HQ1 := Lib.hid Q
        have HBX1 := Lib.hid hbx
        obtain ⟨i0, hi, hz0, hz1, hz2⟩ := info_parts inf_arr
        clear Q hbx
        rename World => wo
        go_wp2
        go_loopw [7] (fun v wz => ∃ k : Nat, k ≤ U.sizes.length ∧ v = .int .i64 k ∧ (∃ L, EngQ layR0 F w (fun _ => False) wz p U (stK U args k args.length) L) ∧ Blk wz w.heap.size 25 #[.slice Av U.sizes.length cv, .int .i64 U.params, .int .i64 U.regs, .int .i64 U.code, .int .i64 U.spill, .slice Ab U.blocks.length cb]) (fun v _ => U.sizes.length - (intOf v).toNat)
        case atStart => exact ⟨0, Nat.zero_le _, rfl, ⟨L2, HQ1.out⟩, HBX1.out⟩
        case round =>
          obtain ⟨k, hk, rfl, ⟨L1, Q⟩, hbx⟩ := hrel
          rename World => wr
          have q0 : wr.cell? ⟨w.heap.size, 0, none⟩ = some (.slice Av U.sizes.length cv) := (hbx.cell 0).trans rfl
          have lwr : w.heap.size < wr.heap.size := hbx.lt
          by_cases hlt : k < U.sizes.length
          · have hsr := HU.out.hs.fr Q.f (fun _ _ => not_false)
            obtain ⟨g0, o0, rfl, _, lg0, hc⟩ := rowi_at hsr hlt
            have hnk := HG.out.sz _ (List.getElem_mem hlt)
            obtain ⟨n, hn⟩ : ∃ n, n = U.sizes[k] := ⟨_, rfl⟩
            have hck : wr.cell? ⟨g0, o0 + k, none⟩ = some (.int .i64 n) := hc _ (by simp [numV, hlt, hn])
            rw [← hn] at hnk
            have mk := fun W => make_i64 n (by omega) (by omega) W
            have hal1 := stK_arrs U args k args.length hk
            obtain ⟨A, c, hva⟩ := own_shape Q.e.arrs
            rw [hal1] at hva
            have h7 := Z7 Q.e
            rw [hva] at h7
            have f7 := Q.e.blk.frozen 7
            have lp1 : p < wr.heap.size := Q.e.blk.lt
            have np1 : p ≠ wr.heap.size := by omega
            have np1' := np1.symm
            have np2 : p ≠ wr.heap.size + 1 := by omega
            have np2' := np2.symm
            have lp2 : p < wr.heap.size + 1 := by omega
            have lp3 : p < wr.heap.size + 1 + 1 := by omega
            have lp4 : p < wr.heap.size + 2 := by omega
            have HVA := Lib.hid hva
            have HQ := Lib.hid Q
            have HN := Lib.hid hn
            have HAL := Lib.hid hal1
            have HBX4 := Lib.hid hbx
            have hk16 : k ≤ 16 := by omega
            obtain ⟨hn1, hn2⟩ := hnk
            clear hva Q hn hal1 hc hsr hbx
            go_wp2
            go_region_law ((refine step_append_own rfl (.tmp 49) (.tmp 56) 64 rfl 0 26 i0 (.slice none 0 0) 1 24 Tryd.underlying64 hi hz0 hz1 hz2 rfl (by decide) (.slice A k c) k (arrV L1.ga (stK U args k args.length).arrs) rfl ?co ⟨wr.heap.size + 1, 0, none⟩ 1 1 [.slice (some ⟨wr.heap.size, 0, none⟩) n.toNat n.toNat] rfl rfl ?c1 ?c2 ?c3 ?c4 ?c5 ?_; (case co => (rw [← HVA.out]; have h := (((HQ.out.alloc (.cells (numV (List.replicate n.toNat 0)).toArray 2)).alloc (.cells #[.slice (some ⟨wr.heap.size, 0, none⟩) n.toNat n.toNat] 26)).drewN 1).e.arrs; rw [HAL.out] at h; exact h)); (case c1 => exact cell_new _ _ (by simp) _ _); (case c2 => exact one_mem rfl); (case c3 => (unfold maxLen; omega)); (case c4 => omega); (case c5 => exact Nat.zero_le _); intro v' w1 hown1 hg1 hat1; obtain ⟨A1, cc1, rfl⟩ := own_shape hown1; rw [← HVA.out] at hg1 hat1; have hp1 := (((HQ.out.alloc (.cells (numV (List.replicate n.toNat 0)).toArray 2)).alloc (.cells #[.slice (some ⟨wr.heap.size, 0, none⟩) n.toNat n.toNat] 26)).drewN 1).e.blk_arrs okR0 hg1; have c71 : w1.cell? ⟨p, 7, none⟩ = some L1.va := (hp1.cell 7).trans rfl; have f71 := hp1.frozen 7; have HO1 := Lib.hid hown1; have HG1 := Lib.hid hg1; have HA1 := Lib.hid hat1; clear hown1 hg1 hat1 hp1))
            all_goals
              go_wp2
              go_roundw
              case rel =>
                have hx := EngQ.newArrs (l := List.replicate n.toNat 0) (g := wr.heap.size) (n := k + 1) (v := .slice A1 (k + 1) cc1) okR0 (((HQ.out.alloc (.cells (numV (List.replicate n.toNat 0)).toArray 2)).alloc (.cells #[.slice (some ⟨wr.heap.size, 0, none⟩) n.toNat n.toNat] 26)).drewN 1) (((Blk.new wr _ _).alloc _).drewN 1) (fun h => Nat.lt_irrefl _ (HQ.out.e.mlt (.inr (.inr (.inr (.inr (.inr (.inr (.inr h))))))))) (fun h => Nat.lt_irrefl _ (HQ.out.e.mlt (.inr (.inr (.inr (.inr (.inr (.inl h)))))))) (fun h => Nat.lt_irrefl _ (HQ.out.e.flt _ h)) (.inr HQ.out.f.size) (by rw [HAL.out]) HG1.out (by rw [List.length_replicate]; exact HO1.out) (HA1.out.elim .inl (fun h => .inr ⟨_, h, Nat.le_refl _⟩))
                rw [HN.out, stK_arr U args k args.length hlt] at hx
                have hbk : Blk w1 w.heap.size 25 _ := Blk.fr (M := fun b => L1.va.ownBlock = some b) (((HBX4.out.alloc (.cells (numV (List.replicate n.toNat 0)).toArray 2)).alloc (.cells #[.slice (some ⟨wr.heap.size, 0, none⟩) n.toNat n.toNat] 26)).drewN 1) (Fr.of_grown HG1.out fun _ hk => hk) (own_blk_ne HQ.out.e.arrs HBX4.out (by decide))
                exact ⟨k + 1, by omega, by go_num, ⟨{ L1 with va := .slice A1 (k + 1) cc1, ga := L1.ga ++ [wr.heap.size] }, hx⟩, hbk.far (p := ⟨p, 7, none⟩) (by simp only; omega) _⟩
              case measure => simp [intOf]; omega
          · obtain rfl : k = U.sizes.length := by omega
            have f13 := Q.e.blk.frozen 13
            have z13 := Z13 Q.e
            have HQ2 := Lib.hid (EngQ.kindR Q rfl)
            clear Q hbx
            go_wp2_with (go_at_call 53; refine (renter_any HQ2.out.x 0 (Int.le_refl _) ?z1 ?z2 ?z3).mono ?_; (case z1 => (simp [stK]; omega)); (case z2 => (simp [stK])); (case z3 => (simp [stK]; omega)); rintro e w' ⟨rfl, E⟩)
            go_ret
            exact ⟨p, rfl, by rw [← stK_init]; exact E⟩
end Go.Proofs.YtfkjkdoloamakaaDoor
