/- Poisoned of package code: which registers and cells may be poison: lists that are closed. -/
import Derived.Test.YtfkjkdoloamakaaDoorYj
import Derived.Test.YtfkjkdoloamakaaDoorYi
import Derived.Test.YtfkjkdoloamakaaDoorYg
import Derived.Laws.Rows
namespace Go.Proofs.YtfkjkdoloamakaaDoor
open Go.RowKit
set_option linter.unusedVariables false
set_option linter.unusedSimpArgs false
attribute [local go_sem] Oper.semAt_some
variable {w : World} {F : Nat → Prop} {U : UnS} {Av Ab : Option Addr} {cv cb : Nat}

set_option maxHeartbeats 1000000 in
theorem ops_any (vs0 : Value) (p r c s : Int) (vs5 : Value) (W : World) :
    Calls Tryd.prog 86 #[.agg #[vs0, .int .i64 p, .int .i64 r, .int .i64 c, .int .i64 s, vs5]] W fun e w' => e = .returned (.func (.func 103) #[] #[.pointer (some ⟨W.heap.size, 0, none⟩)]) ∧ w' = W.alloc (.cells #[vs0, .int .i64 p, .int .i64 r, .int .i64 c, .int .i64 s, vs5] 25) := by
  go_enter Tryd.func86, Tryd.ntmps86
  go_wp2
  go_ret
  exact ⟨rfl, rfl⟩

/-- the marks that the loops over Ops leave -/
structure Marks (B : Nat) (Dl : List Nat) (ds : List Deferred) (w : World) : Prop where
  eq : ds = Dl.map (fun D => { target := .collected D, args := #[] })
  nd : Dl.Nodup
  at_ : ∀ D ∈ Dl, B ≤ D ∧ w.heap[D]? = some (.deferred (some []))
theorem Fr.putObj {M : Nat → Prop} {W : World} {l : Nat} (o : Obj) (hl : M l) : Fr M W (W.putObj l o) :=
  Fr.of_grown (grownBy_putObj' W l o) fun k e => by cases e; exact hl
theorem Marks.fr {M : Nat → Prop} {B : Nat} {Dl : List Nat} {ds : List Deferred} {w w' : World} (h : Marks B Dl ds w) (hf : Fr M w w') (hn : ∀ D, B ≤ D → D < w.heap.size → w.heap[D]? = some (.deferred (some [])) → ¬ M D) : Marks B Dl ds w' :=
  ⟨h.eq, h.nd, fun D hD => ⟨(h.at_ D hD).1, (hf.block D (Array.getElem?_eq_some_iff.1 (h.at_ D hD).2).1 (hn D (h.at_ D hD).1 (Array.getElem?_eq_some_iff.1 (h.at_ D hD).2).1 (h.at_ D hD).2)).trans (h.at_ D hD).2⟩⟩
theorem leaves_marks {n : Nat} {fn : Func} {tmps : Array Value} {R : Ending → World → Prop} {B : Nat} : ∀ (Dl : List Nat) (ds : List Deferred) (w : World), Marks B Dl ds w → (∀ w', Fr (fun b => b ∈ Dl) w w' → LeavesIn Fence.wide n Tryd.prog fn tmps R [] .returning w') → LeavesInM Fence.wide n Tryd.prog fn tmps R ds .returning w
  | [], ds, w, hm, hq => by
    rw [hm.eq]
    exact hq w (Fr.refl _ _)
  | D :: Dl, ds, w, hm, hq => by
    rw [hm.eq]
    obtain ⟨hB, hD⟩ := hm.at_ D (List.mem_cons_self ..)
    have hnd := List.nodup_cons.1 hm.nd
    have hne : ∀ E ∈ Dl, E ≠ D := fun E hE e => hnd.1 (e ▸ hE)
    refine ⟨by simp, .inl ⟨D, _, rfl, run_takeDeferred hD, ?_⟩⟩
    have hf : Fr (fun b => b = D) w (w.putObj D (.deferred none)) := Fr.putObj _ rfl
    refine leaves_marks Dl _ _ ⟨rfl, hnd.2, fun E hE => ⟨(hm.at_ E (List.mem_cons_of_mem _ hE)).1, (hf.block E (Array.getElem?_eq_some_iff.1 (hm.at_ E (List.mem_cons_of_mem _ hE)).2).1 (hne E hE)).trans (hm.at_ E (List.mem_cons_of_mem _ hE)).2⟩⟩ fun w' hf' => hq w' ?_
    exact (hf.mono fun i e => by subst e; exact List.mem_cons_self ..).then_ (hf'.mono fun i hi => List.mem_cons_of_mem _ hi)
theorem keepsFrom_fr {M : Nat → Prop} {B : Nat} {W W' : World} (hf : Fr M W W') (hM : ∀ b, M b → b < B) : KeepsFrom B W W' :=
  ⟨hf.size, fun k o hB hk _ => (hf.block k (Array.getElem?_eq_some_iff.1 hk).1 (fun h => by have := hM k h; omega)).trans hk⟩

def boxT (a : Act) (w : World) : Nat := match a.tmps.getD 4 undef with
  | .pointer (some p) => (match w.cell? p with | some (.bool true) => 1 | _ => 0)
  | _ => 0
theorem boxT_eq {a : Act} {w : World} {B : Nat} {t : Bool} (h : a.tmps.getD 4 undef = .pointer (some ⟨B, 0, none⟩)) (hb : Blk w B 4 #[.bool t]) : boxT a w = if t = true then 1 else 0 := by
  unfold boxT
  rw [h]
  have hc : w.cell? ⟨B, 0, none⟩ = some (.bool t) := (hb.cell 0).trans rfl
  simp only [hc]
  cases t <;> rfl
/-- what Poisoned's outer loop keeps -/
structure PInv (w : World) (U : UnS) (Av Ab : Option Addr) (cv cb gM gR gC B : Nat) (Dl : List Nat) (ds : List Deferred) (R C : List Bool) (t : Bool) (wz : World) : Prop where
  bM : Blk wz gM 122 #[.slice (some ⟨gR, 0, none⟩) R.length R.length, .slice (some ⟨gC, 0, none⟩) C.length C.length]
  bR : Blk wz gR 4 (boolV R).toArray
  bC : Blk wz gC 4 (boolV C).toArray
  bB : Blk wz B 4 #[.bool t]
  nB : B ≠ gR ∧ B ≠ gC ∧ w.heap.size ≤ B
  lR : (R.length : Int) = U.regs
  lC : (C.length : Int) = U.spill
  cl : t = false → Closed U R C
  mks : Marks w.heap.size Dl ds wz
  bel : Below w.heap.size w wz
  bU : Blk wz w.heap.size 25 #[.slice Av U.sizes.length cv, .int .i64 U.params, .int .i64 U.regs, .int .i64 U.code, .int .i64 U.spill, .slice Ab U.blocks.length cb]
  bE : Blk wz (w.heap.size + 1) 122 #[.slice none 0 0, .slice none 0 0]
/-- what a loop over Ops keeps -/
def RM (gR gC B D : Nat) (b : Nat) : Prop := b = gR ∨ b = gC ∨ b = B ∨ D ≤ b
def RInv (wq : World) (U : UnS) (gR gC B : Nat) (R0 C0 : List Bool) (pre : List (OpU U)) (W : World) : Prop :=
  ∃ R C t, Blk W gR 4 (boolV R).toArray ∧ Blk W gC 4 (boolV C).toArray ∧ Blk W B 4 #[.bool t] ∧ R.length = R0.length ∧ C.length = C0.length ∧ Fr (RM gR gC B wq.heap.size) wq W ∧ (t = false → R = R0 ∧ C = C0 ∧ ∀ x ∈ pre, ClosedO R0 C0 x.1) ∧ cntF R + cntF C ≤ cntF R0 + cntF C0 ∧ (t = true → cntF R + cntF C < cntF R0 + cntF C0)
theorem Blk.own {wq W W' : World} {row : Option Nat} {g : Nat} {t : TypeId} {cs : Array Value} (h : Blk W g t cs) (hg : W.grownBy W' row) (hr : ∀ r, row = some r → ∃ o : Obj, W.heap[r]? = some o ∧ o.isCells = false) : Blk W' g t cs :=
  (hg.block g h.lt (fun e => by
    obtain ⟨o, ho, hc⟩ := hr g e.symm
    rw [show W.heap[g]? = _ from h] at ho
    cases ho
    cases hc)).trans h
theorem RInv.own {wq : World} {gR gC B : Nat} {R0 C0 : List Bool} : OwnFrom wq.heap.size (RInv wq U gR gC B R0 C0) := by
  rintro pre W W' row ⟨R, C, t, h1, h2, h3, h4, h5, h6, h7⟩ hg hr
  have hr2 : ∀ r, row = some r → ∃ o : Obj, W.heap[r]? = some o ∧ o.isCells = false := fun r e => (hr r e).2
  exact ⟨R, C, t, h1.own (wq := wq) hg hr2, h2.own (wq := wq) hg hr2, h3.own (wq := wq) hg hr2, h4, h5, h6.then_ (Fr.of_grown hg fun k e => .inr (.inr (.inr (hr k e).1))), h7⟩
/-- the block that the loop lays for its variable -/
def AxP (wq : World) (U : UnS) (f : Nat → OpI → Act) (x : OpU U) (a' : Act) (W : World) : Prop :=
  ∃ Bx, wq.heap.size ≤ Bx ∧ Blk W Bx 76 #[.int .i64 x.1.k, .int .i64 x.1.d, .int .i64 x.1.a, .int .i64 x.1.b, .int .i64 x.1.c, .int .i64 x.1.n, .int .i64 x.1.g] ∧ a' = f Bx x.1
theorem AxP.own {wq : World} {f : Nat → OpI → Act} (x : OpU U) (a' : Act) : OwnFrom wq.heap.size (fun (_ : Unit) W => AxP wq U f x a' W) := by
  rintro _ W W' row ⟨Bx, h1, h2, h3⟩ hg hr
  exact ⟨Bx, h1, h2.own (wq := wq) hg (fun r e => (hr r e).2), h3⟩
theorem bel3p (W : World) (o1 o2 o3 : Obj) : Below W.heap.size W (((W.alloc o1).alloc o2).alloc o3).drew :=
  ((((Below.refl W.heap.size W).alloc (Nat.le_refl _) o1).alloc (by simp) o2).alloc (by simp; omega) o3).drew
theorem keep3p {W : World} {a : Addr} {v : Value} (h : W.cell? a = some v) (hl : a.block < W.heap.size) (o1 o2 o3 : Obj) : (((W.alloc o1).alloc o2).alloc o3).drew.cell? a = some v := (bel3p W o1 o2 o3).cell hl |>.trans h
theorem keep2p {W : World} {a : Addr} {v : Value} (h : W.cell? a = some v) (hl : a.block < W.heap.size) (o1 o2 : Obj) : ((W.alloc o1).alloc o2).drew.cell? a = some v :=
  (((Below.refl W.heap.size W).alloc (Nat.le_refl _) o1).alloc (by simp) o2).drew.cell hl |>.trans h
theorem keep1p {W : World} {a : Addr} {v : Value} (h : W.cell? a = some v) (hl : a.block < W.heap.size) (o1 : Obj) : (W.alloc o1).drew.cell? a = some v :=
  ((Below.refl W.heap.size W).alloc (Nat.le_refl _) o1).drew.cell hl |>.trans h
theorem p1 (W : World) (t : TypeId) (cs : Array Value) (o2 o3 : Obj) : Blk (((W.alloc (.cells cs t)).alloc o2).alloc o3).drew W.heap.size t cs := ((blk_new W rfl t cs).alloc _).alloc _
theorem p2 (W : World) (t : TypeId) (cs : Array Value) (o1 o3 : Obj) : Blk (((W.alloc o1).alloc (.cells cs t)).alloc o3).drew (W.heap.size + 1) t cs := (blk_new (W.alloc o1) (by simp) t cs).alloc _
theorem p3 (W : World) (t : TypeId) (cs : Array Value) (o1 o2 : Obj) : Blk (((W.alloc o1).alloc o2).alloc (.cells cs t)).drew (W.heap.size + 1 + 1) t cs := blk_new ((W.alloc o1).alloc o2) (by simp) t cs

set_option maxRecDepth 100000 in
set_option maxHeartbeats 4000000 in
theorem poisoned_any (hu : UnIn F w U Av cv Ab cb) (G : UnGood U) (V : Env w) :
    Calls Tryd.prog 68 #[unV U Av cv Ab cb] w (MayR U w) := by
  obtain ⟨W0, hW0⟩ : ∃ W0, W0 = (w.alloc (.cells #[.slice Av U.sizes.length cv, .int .i64 U.params, .int .i64 U.regs, .int .i64 U.code, .int .i64 U.spill, .slice Ab U.blocks.length cb] 25)).alloc (.cells #[.slice none 0 0, .slice none 0 0] 122) := ⟨_, rfl⟩
  have hb0 : Below w.heap.size w W0 := by rw [hW0]; exact ((Below.refl _ _).alloc (Nat.le_refl _) _).alloc (by simp) _
  have bU : Blk W0 w.heap.size 25 #[.slice Av U.sizes.length cv, .int .i64 U.params, .int .i64 U.regs, .int .i64 U.code, .int .i64 U.spill, .slice Ab U.blocks.length cb] := by rw [hW0]; exact (blk_new w rfl _ _).alloc _
  have bE : Blk W0 (w.heap.size + 1) 122 #[.slice none 0 0, .slice none 0 0] := by rw [hW0]; exact blk_new _ (by simp) _ _
  have q2 : W0.cell? ⟨w.heap.size, 2, none⟩ = some (.int .i64 U.regs) := (bU.cell 2).trans rfl
  have q4 : W0.cell? ⟨w.heap.size, 4, none⟩ = some (.int .i64 U.spill) := (bU.cell 4).trans rfl
  have lw0 : w.heap.size < W0.heap.size := bU.lt
  have lw1 : w.heap.size + 1 < W0.heap.size := bE.lt
  have hr1 := G.r1
  have hr2 := G.r2
  have hsp := G.sp
  have hsp2 := G.sp2
  have mk1 := fun W => make_bool U.regs (by omega) (by omega) W
  have mk2 := fun W => make_bool U.spill (by omega) (by omega) W
  have HG := Lib.hid G
  have HU := Lib.hid hu
  have HV := Lib.hid V
  have HB0 := Lib.hid hb0
  have HBU := Lib.hid bU
  have HBE := Lib.hid bE
  have HW0 := Lib.hid hW0
  clear G hu V hb0 bU bE hW0
  unfold unV
  refine (callsIn_wide (n := 5)).1 ?_
  refine callsIn_of_wp_marks Tryd.func68 rfl trivial ?_ rfl
  refine wpIn_wide.2 ?_
  simp only [Tryd.ntmps68, List.size_toArray, List.length_cons, List.length_nil, Nat.reduceAdd, Nat.reduceSub, Array.replicate_succ, Array.replicate_zero, List.push_toArray, List.append_toArray, List.nil_append, List.cons_append]
  go_upto_region 1 with fail
  rw [← HW0.out]
  go_cut [3] from 6 to 12 (fun v3 wx => ∃ gM gR gC : Nat, v3 = .pointer (some ⟨gM, 0, none⟩) ∧ Blk wx gM 122 #[.slice (some ⟨gR, 0, none⟩) U.regs.toNat U.regs.toNat, .slice (some ⟨gC, 0, none⟩) U.spill.toNat U.spill.toNat] ∧ Blk wx gR 4 (boolV (List.replicate U.regs.toNat false)).toArray ∧ Blk wx gC 4 (boolV (List.replicate U.spill.toNat false)).toArray ∧ gR ≠ gC ∧ W0.heap.size ≤ gM ∧ W0.heap.size ≤ gR ∧ W0.heap.size ≤ gC ∧ Below W0.heap.size W0 wx)
  case first =>
    go_region_held3 (fun w' => w'.cell? ⟨w.heap.size, 2, none⟩ = some (.int .i64 U.regs) ∧ w'.cell? ⟨w.heap.size, 4, none⟩ = some (.int .i64 U.spill)) (first | exact ⟨q2, q4⟩ | with_reducible exact ⟨keep1p q2 lw0 _, keep1p q4 lw0 _⟩ | with_reducible exact ⟨keep2p q2 lw0 _ _, keep2p q4 lw0 _ _⟩ | with_reducible exact ⟨keep3p q2 lw0 _ _ _, keep3p q4 lw0 _ _ _⟩ | (go_keep; done)) (first | fail)
    all_goals
      go_wp2
      go_meet
      exact ⟨_, _, _, rfl, by first | exact p3 _ _ _ _ _ | exact p2 _ _ _ _ _ | exact p1 _ _ _ _ _, by first | exact p1 _ _ _ _ _ | exact p2 _ _ _ _ _ | exact p3 _ _ _ _ _, by first | exact p1 _ _ _ _ _ | exact p2 _ _ _ _ _ | exact p3 _ _ _ _ _, by omega, by omega, by omega, by omega, bel3p _ _ _ _⟩
  case rest =>
    obtain ⟨gM, gR, gC, rfl, bM, bR, bC, hRC, lM, lR, lC, hb1⟩ := hcut
    have bU1 := HBU.out.below hb1
    have bE1 := HBE.out.below hb1
    have nMR : gM ≠ gR := bM.ne_ bR (by decide)
    have nMC : gM ≠ gC := bM.ne_ bC (by decide)
    have hbw : Below w.heap.size w wc := HB0.out.trans (hb1.mono HB0.out.size)
    have hsz := hbw.size
    obtain ⟨nR, hnR⟩ : ∃ n, n = U.regs.toNat := ⟨_, rfl⟩
    obtain ⟨nC, hnC⟩ : ∃ n, n = U.spill.toNat := ⟨_, rfl⟩
    go_wp2
    refine wp_loop (fun a wz => ∃ (B : Nat) (v13 v14 v15 v23 : Value) (ds : List Deferred) (Dl : List Nat) (R C : List Bool) (t : Bool), a = { tmps := #[.agg #[.slice Av U.sizes.length cv, .int .i64 U.params, .int .i64 U.regs, .int .i64 U.code, .int .i64 U.spill, .slice Ab U.blocks.length cb], .pointer (some ⟨w.heap.size, 0, none⟩), .pointer (some ⟨w.heap.size + 1, 0, none⟩), .pointer (some ⟨gM, 0, none⟩), .pointer (some ⟨B, 0, none⟩), undef, u6, u7, u8, u9, u10, u11, u12, v13, v14, v15, undef, undef, undef, undef, undef, undef, undef, v23, undef], defers := ds } ∧ PInv w U Av Ab cv cb gM gR gC B Dl ds R C t wz) (fun a wz => 2 * (cntW wz gR + cntW wz gC) + boxT a wz) ?start ?round
    case start =>
      refine ⟨_, _, _, _, _, _, [], List.replicate U.regs.toNat false, List.replicate U.spill.toNat false, true, rfl, ?_⟩
      exact
        { bM := by rw [List.length_replicate, List.length_replicate]; exact bM.alloc _
          bR := bR.alloc _
          bC := bC.alloc _
          bB := blk_new _ rfl _ _
          nB := ⟨by have := bR.lt; omega, by have := bC.lt; omega, by omega⟩
          lR := by rw [List.length_replicate]; omega
          lC := by rw [List.length_replicate]; omega
          cl := fun e => by cases e
          mks := ⟨rfl, List.nodup_nil, fun D hD => absurd hD (by simp)⟩
          bel := hbw.alloc hsz _
          bU := bU1.alloc _
          bE := bE1.alloc _ }
    case round =>
      rintro a wz ⟨B, v13, v14, v15, v23, ds, Dl, R, C, t, rfl, P⟩
      clear bM bR bC bU1 bE1 hbw hb1 q2 q4
      have qB : wz.cell? ⟨B, 0, none⟩ = some (.bool t) := (P.bB.cell 0).trans rfl
      have fB := P.bB.frozen 0
      have m0 : wz.cell? ⟨gM, 0, none⟩ = some (.slice (some ⟨gR, 0, none⟩) R.length R.length) := (P.bM.cell 0).trans rfl
      have m1 : wz.cell? ⟨gM, 1, none⟩ = some (.slice (some ⟨gC, 0, none⟩) C.length C.length) := (P.bM.cell 1).trans rfl
      have e0 : wz.cell? ⟨w.heap.size + 1, 0, none⟩ = some (.slice none 0 0) := (P.bE.cell 0).trans rfl
      have e1 : wz.cell? ⟨w.heap.size + 1, 1, none⟩ = some (.slice none 0 0) := (P.bE.cell 1).trans rfl
      have fe0 := P.bE.frozen 0
      have fe1 := P.bE.frozen 1
      have r0 : wz.cell? ⟨w.heap.size, 0, none⟩ = some (.slice Av U.sizes.length cv) := (P.bU.cell 0).trans rfl
      have r1 : wz.cell? ⟨w.heap.size, 1, none⟩ = some (.int .i64 U.params) := (P.bU.cell 1).trans rfl
      have r2 : wz.cell? ⟨w.heap.size, 2, none⟩ = some (.int .i64 U.regs) := (P.bU.cell 2).trans rfl
      have r3 : wz.cell? ⟨w.heap.size, 3, none⟩ = some (.int .i64 U.code) := (P.bU.cell 3).trans rfl
      have r4 : wz.cell? ⟨w.heap.size, 4, none⟩ = some (.int .i64 U.spill) := (P.bU.cell 4).trans rfl
      have r5 : wz.cell? ⟨w.heap.size, 5, none⟩ = some (.slice Ab U.blocks.length cb) := (P.bU.cell 5).trans rfl
      have nBU : w.heap.size ≠ B := P.bU.ne_ P.bB (by decide)
      have nBU' := nBU.symm
      have nBM : B ≠ gM := P.bB.ne_ P.bM (by decide)
      have HP := Lib.hid P
      clear P
      cases t
      · go_wp2
        obtain ⟨W', hW'⟩ : ∃ W', W' = (wz.setCell ⟨w.heap.size + 1, 0, none⟩ (.slice (some ⟨gR, 0, none⟩) R.length R.length)).setCell ⟨w.heap.size + 1, 1, none⟩ (.slice (some ⟨gC, 0, none⟩) C.length C.length) := ⟨_, rfl⟩
        rw [← hW']
        have P := HP.out
        have hfE : Fr (fun b => b = w.heap.size + 1) wz W' := by rw [hW']; exact Fr.two _ _ _ _ _ _
        have gE : Blk W' (w.heap.size + 1) 122 #[.slice (some ⟨gR, 0, none⟩) R.length R.length, .slice (some ⟨gC, 0, none⟩) C.length C.length] := by rw [hW']; exact (P.bE.set_ 0 _).set_ 1 _
        have gR' := P.bR.fr hfE (P.bR.ne_ P.bE (by decide))
        have gC' := P.bC.fr hfE (P.bC.ne_ P.bE (by decide))
        have hm : Marks w.heap.size Dl ds W' := P.mks.fr hfE (fun D _ _ hD e => by
          subst e
          rw [show wz.heap[w.heap.size + 1]? = _ from P.bE] at hD
          cases hD)
        have hbf : Below w.heap.size w W' := P.bel.trans (hfE.below (fun b hb => by omega) P.bel.size)
        have noD : ∀ g t cs, Blk W' g t cs → g ∉ Dl := fun g t cs h hD => by
          have e := (hm.at_ g hD).2
          rw [show W'.heap[g]? = _ from h] at e
          cases e
        refine leaves_marks Dl ds W' hm fun w' hf => ?_
        refine ⟨_, results_cell_row rfl _ w' (w.heap.size + 1) _ _ _ _ rfl (gE.fr hf (noD _ _ _ gE)) Tryd.underlying122 rfl (by kernel_rfl), ?_⟩
        exact ⟨gR, gC, R, C, rfl, gR'.fr hf (noD _ _ _ gR'), gC'.fr hf (noD _ _ _ gC'), hRC, by omega, by omega, P.lR, P.lC, P.cl rfl, hbf.trans (hf.below (fun b hb => (hm.at_ b hb).1) hbf.size)⟩
      · have lBz : B < wz.heap.size := HP.out.bB.lt
        go_wp2_with (go_at_call 86; refine (ops_any _ _ _ _ _ _ _).mono ?_; rintro e w' ⟨rfl, rfl⟩)
        obtain ⟨wq, hwq⟩ : ∃ wq, wq = (wz.setCell ⟨B, 0, none⟩ (.bool false)).alloc (.cells #[.slice Av U.sizes.length cv, .int .i64 U.params, .int .i64 U.regs, .int .i64 U.code, .int .i64 U.spill, .slice Ab U.blocks.length cb] 25) := ⟨_, rfl⟩
        rw [← hwq]
        have P := HP.out
        obtain ⟨nB1, nB2, nB3⟩ := P.nB
        have hszq : wq.heap.size = wz.heap.size + 1 := by rw [hwq]; simp
        have hfq : Fr (fun b => b = B) wz wq := by rw [hwq]; exact (Fr.setCell (M := fun b => b = B) (p := ⟨B, 0, none⟩) (Fr.refl _ wz) (.inl rfl) _).alloc _
        have gbM := P.bM.fr hfq nBM.symm
        have gbR := P.bR.fr hfq nB1.symm
        have gbC := P.bC.fr hfq nB2.symm
        have gbB : Blk wq B 4 #[.bool false] := by rw [hwq]; exact (P.bB.set_ 0 _).alloc _
        have gbN : Blk wq wz.heap.size 25 #[.slice Av U.sizes.length cv, .int .i64 U.params, .int .i64 U.regs, .int .i64 U.code, .int .i64 U.spill, .slice Ab U.blocks.length cb] := by rw [hwq]; exact blk_new _ (by simp) _ _
        have gbU := P.bU.fr hfq nBU
        have gbE := P.bE.fr hfq (by have := P.bE.ne_ P.bB (by decide); exact this)
        have hbq : Below w.heap.size w wq := P.bel.trans (hfq.below (fun b hb => by subst hb; exact nB3) P.bel.size)
        have huq := HU.out.below hbq
        have hVq : Env wq := HV.out.below hbq
        have hmq : Marks w.heap.size Dl ds wq := P.mks.fr hfq (fun D _ _ hD e => by
          subst e
          rw [show wz.heap[D]? = _ from P.bB] at hD
          cases hD)
        have hFM : ∀ g, F g → ¬ RM gR gC B wq.heap.size g := by
          rintro g hg (e | e | e | e)
          · have := HU.out.hF g hg; omega
          · have := HU.out.hF g hg; omega
          · have := HU.out.hF g hg; omega
          · have := huq.hF g hg; omega
        have nNR : wz.heap.size ≠ gR := gbN.ne_ gbR (by decide)
        have nNC : wz.heap.size ≠ gC := gbN.ne_ gbC (by decide)
        have nNB : wz.heap.size ≠ B := gbN.ne_ gbB (by decide)
        have hMB : ¬ RM gR gC B wq.heap.size wz.heap.size := by
          rintro (e | e | e | e)
          · exact nNR e
          · exact nNC e
          · exact nNB e
          · omega
        have hforms : 0 < w.heap.size := lt_of_var gForms HV.out
        have hMF : ¬ RM gR gC B wq.heap.size 0 := by
          rintro (e | e | e | e) <;> omega
        have hMM : ¬ RM gR gC B wq.heap.size gM := by
          have := gbM.lt
          rintro (e | e | e | e)
          · exact nMR e
          · exact nMC e
          · exact nBM e.symm
          · omega
        have hseq := ops1_stops (n := 5 - 1) (w := wq) (F := F) (U := U) (Av := Av) (Ab := Ab) (cv := cv) (cb := cb) (by decide) wz.heap.size (RM gR gC B wq.heap.size) hFM gbN.lt hMB gbN huq HG.out.mb (fun b hb => (HG.out.bls b hb).len)
        have hlR : R.length ≤ 4096 := by have := P.lR; omega
        have hlC : C.length ≤ 4096 := by have := P.lC; omega
        refine wpIn_wide.1 (wpIn_rangeFunc_ownH (n := 5) (F := Fence.wide) (P := Tryd.prog) rfl (by decide) (gf := 103) (lb := #[.pointer (some ⟨wz.heap.size, 0, none⟩)]) rfl trivial (enters_of Tryd.func103 (by kernel_rfl) rfl) hseq Fr.then_ (fun W l o o' hl _ _ _ => Fr.putObj o' (.inr (.inr (.inr hl)))) (Below.refl _ _) (fun _ => rfl) (RInv wq U gR gC B R C) (fun _ _ _ => False) RInv.own (fun _ _ _ _ _ h _ _ => h) ⟨R, C, false, gbR, gbC, gbB, rfl, rfl, Fr.refl _ _, (fun _ => ⟨rfl, rfl, fun x hx => by cases hx⟩), Nat.le_refl _, (fun e => by cases e)⟩ (AxP wq U (fun Bx o => { tmps := #[.agg #[.slice Av U.sizes.length cv, .int .i64 U.params, .int .i64 U.regs, .int .i64 U.code, .int .i64 U.spill, .slice Ab U.blocks.length cb], .pointer (some ⟨w.heap.size, 0, none⟩), .pointer (some ⟨w.heap.size + 1, 0, none⟩), .pointer (some ⟨gM, 0, none⟩), .pointer (some ⟨B, 0, none⟩), .pointer (some ⟨Bx, 0, none⟩), u6, u7, u8, u9, u10, u11, u12, .bool true, .agg #[.slice Av U.sizes.length cv, .int .i64 U.params, .int .i64 U.regs, .int .i64 U.code, .int .i64 U.spill, .slice Ab U.blocks.length cb], .func (.func 103) #[] #[.pointer (some ⟨wz.heap.size, 0, none⟩)], opV o, undef, undef, undef, undef, undef, undef, v23, undef], defers := [] })) AxP.own ?assign ?body ?done ?stop)
        case assign =>
          intro l pre x W K hi hK
          obtain ⟨⟨k, d, a, b, c, n, g⟩, hx⟩ := x
          have hsz2 : wq.heap.size ≤ W.heap.size := by obtain ⟨_, _, _, _, _, _, _, _, hf, _⟩ := hi; exact hf.size
          dsimp only [opV]
          gi_wp2
          exact hK _ _ ((KeepsOthers.alloc _ _).from _) (Fr.of_below ((Below.refl _ _).alloc (Nat.le_refl _) _)) (RInv.own.alloc _ hi) ⟨W.heap.size, hsz2, blk_new _ rfl _ _, rfl⟩
        case body =>
          rintro l pre x a' W hl ⟨r, hr⟩ ⟨R2, C2, t2, h1, h2, h3, e1, e2, hfr, hcl, hle, hlt⟩ ⟨Bx, hBx, bX, rfl⟩ hlN
          obtain ⟨o, b0, hb0m, hbo⟩ := x
          have hog : OpGood U o := (HG.out.bls _ hb0m).ops _ hbo
          obtain ⟨k, d, a, b, c, n, g⟩ := o
          dsimp only [opV]
          have lR2 : (R2.length : Int) = U.regs := by rw [e1]; exact P.lR
          have lC2 : (C2.length : Int) = U.spill := by rw [e2]; exact P.lC
          have bM2 := gbM.fr hfr hMM
          have m0 : W.cell? ⟨gM, 0, none⟩ = some (.slice (some ⟨gR, 0, none⟩) R.length R.length) := (bM2.cell 0).trans rfl
          have m1 : W.cell? ⟨gM, 1, none⟩ = some (.slice (some ⟨gC, 0, none⟩) C.length C.length) := (bM2.cell 1).trans rfl
          have x0 : W.cell? ⟨Bx, 0, none⟩ = some (.int .i64 k) := (bX.cell 0).trans rfl
          have x1 : W.cell? ⟨Bx, 1, none⟩ = some (.int .i64 d) := (bX.cell 1).trans rfl
          have x2 : W.cell? ⟨Bx, 2, none⟩ = some (.int .i64 a) := (bX.cell 2).trans rfl
          have x3 : W.cell? ⟨Bx, 3, none⟩ = some (.int .i64 b) := (bX.cell 3).trans rfl
          have x4 : W.cell? ⟨Bx, 4, none⟩ = some (.int .i64 c) := (bX.cell 4).trans rfl
          have x5 : W.cell? ⟨Bx, 5, none⟩ = some (.int .i64 n) := (bX.cell 5).trans rfl
          have x6 : W.cell? ⟨Bx, 6, none⟩ = some (.int .i64 g) := (bX.cell 6).trans rfl
          have KS := Lib.hid (spread_any h1 h2 hRC (hVq.fr hfr hMF) (by rw [e1]; exact hlR) (by rw [e2]; exact hlC) k d a b c n g hog.k1 hog.k2 (by rw [lR2]; exact hog.d) (by rw [lR2]; exact hog.a) (by rw [lR2]; exact hog.b) (by rw [lR2]; exact hog.c) (fun h => by rw [lC2]; exact hog.cell h))
          rw [e1, e2] at KS
          have HX := Lib.hid (And.intro hfr (And.intro hcl (And.intro hle (And.intro hlt (And.intro e1 e2)))))
          have HB := Lib.hid (And.intro h3 (And.intro nB1 nB2))
          clear h1 h2 hfr hcl hle hlt
          gi_wp2_with (refine ⟨trivial, ?_⟩; gi_at_call 87; refine (CallsIn.inRound l (callsIn_wide.2 KS.out)).mono ?_; rintro e w1 ⟨R3, C3, t3, rfl, k1, k2, k3, k4, k5, k6, k7⟩; have hB1 := HB.out.1.fr k3 (fun e => e.elim HB.out.2.1 HB.out.2.2); have b0 : w1.cell? ⟨B, 0, none⟩ = some (.bool t2) := (hB1.cell 0).trans rfl; have fb := hB1.frozen 0; have KK := Lib.hid (And.intro k1 (And.intro k2 (And.intro k3 (And.intro k4 (And.intro k5 (And.intro k6 (And.intro k7 hB1))))))); clear k1 k2 k3 k4 k5 k6 k7 hB1)
          all_goals rename_i ht
          all_goals obtain ⟨k1, k2, k3, k4, k5, k6, k7, k8⟩ := KK.out
          all_goals obtain ⟨hfr, hcl, hle, hlt, e1, e2⟩ := HX.out
          all_goals have lgR := gbR.lt
          all_goals have lgC := gbC.lt
          all_goals have lgB := gbB.lt
          all_goals have hk3 : ∀ v, Fr (fun b => b = gR ∨ b = gC ∨ b = B) W (w1.setCell ⟨B, 0, none⟩ v) := fun v => Fr.setCell (M := fun b => b = gR ∨ b = gC ∨ b = B) (p := ⟨B, 0, none⟩) (k3.mono (fun b e => e.elim .inl fun e => .inr (.inl e))) (.inl (.inr (.inr rfl))) v
          all_goals have hk4 : ∀ v, Fr (RM gR gC B wq.heap.size) W (w1.setCell ⟨B, 0, none⟩ v) := fun v => (hk3 v).mono (fun b e => e.elim .inl fun e => .inr (e.elim .inl fun e => .inr (.inl e)))
          all_goals have hk5 : ∀ v, KeepsFrom wq.heap.size W (w1.setCell ⟨B, 0, none⟩ v) := fun v => keepsFrom_fr (hk3 v) (by rintro b (e | e | e) <;> omega)
          all_goals have j1 := fun v => k1.far (p := ⟨B, 0, none⟩) nB1.symm v
          all_goals have j2 := fun v => k2.far (p := ⟨B, 0, none⟩) nB2.symm v
          · have hl := k7 ht
            refine ⟨hk5 _, hk4 _, R3, C3, true, j1 _, j2 _, k8.set_ 0 _, k4.trans e1, k5.trans e2, hfr.then_ (hk4 _), (fun e => by cases e), by omega, fun _ => by omega⟩
          · have ht : t3 = false := by simpa using ht
            obtain ⟨f1, f2, f3⟩ := k6 ht
            rw [f1] at j1
            rw [f2] at j2
            refine ⟨hk5 _, hk4 _, R2, C2, t2, j1 _, j2 _, k8.set_ 0 _, e1, e2, hfr.then_ (hk4 _), fun e => ?_, hle, hlt⟩
            obtain ⟨a1, a2, a3⟩ := hcl e
            refine ⟨a1, a2, fun x hx => ?_⟩
            rcases List.mem_append.1 hx with hx | hx
            · exact a3 x hx
            · rw [List.mem_singleton.1 hx, ← a1, ← a2]
              exact f3
        case done =>
          rintro D xs W hD hS ⟨R2, C2, t2, h1, h2, h3, e1, e2, hfr, hcl, hle, hlt⟩ hK
          have qB2 : W.cell? ⟨B, 0, none⟩ = some (.bool t2) := (h3.cell 0).trans rfl
          go_wp2
          have hMU : ¬ RM gR gC B wq.heap.size w.heap.size := by
            rintro (e | e | e | e) <;> omega
          have hME : ¬ RM gR gC B wq.heap.size (w.heap.size + 1) := by
            have := P.bE.ne_ P.bB (by decide)
            have := gbE.lt
            rintro (e | e | e | e) <;> omega
          have hMD : ∀ D' ∈ Dl, ¬ RM gR gC B wq.heap.size D' := fun D' h => by
            have hd := (hmq.at_ D' h).2
            have hl : D' < wq.heap.size := (Array.getElem?_eq_some_iff.1 hd).1
            rintro (e | e | e | e)
            · rw [e, show wq.heap[gR]? = _ from gbR] at hd; cases hd
            · rw [e, show wq.heap[gC]? = _ from gbC] at hd; cases hd
            · rw [e, show wq.heap[B]? = _ from gbB] at hd; cases hd
            · omega
          have hDl : ∀ D' ∈ Dl, D' < wq.heap.size := fun D' h => (Array.getElem?_eq_some_iff.1 (hmq.at_ D' h).2).1
          have hKl : D < W.heap.size := (Array.getElem?_eq_some_iff.1 hK).1
          have hsz5 := hfr.size
          refine ⟨⟨W.heap.size, _, _, _, _, _, D :: Dl, R2, C2, t2, rfl, ?_⟩, ?_⟩
          · exact
              { bM := by rw [e1, e2]; exact (gbM.fr hfr hMM).alloc _
                bR := h1.alloc _
                bC := h2.alloc _
                bB := blk_new _ rfl _ _
                nB := ⟨by have := h1.lt; omega, by have := h2.lt; omega, by omega⟩
                lR := by rw [e1]; exact P.lR
                lC := by rw [e2]; exact P.lC
                cl := fun e => by
                  obtain ⟨a1, a2, a3⟩ := hcl e
                  intro b hb o ho
                  have hm : o ∈ allU U := List.mem_flatMap.2 ⟨b, hb, ho⟩
                  rw [← hS] at hm
                  obtain ⟨x, hx, rfl⟩ := List.mem_map.1 hm
                  rw [a1, a2]
                  exact a3 x hx
                mks := ⟨by rw [hmq.eq]; rfl, List.nodup_cons.2 ⟨fun h => by have := hDl D h; omega, hmq.nd⟩, fun D' hD' => by
                  rcases List.mem_cons.1 hD' with e | h
                  · subst e
                    exact ⟨by omega, (Below.heap_alloc _ _ _ hKl).trans hK⟩
                  · have hd := hmq.at_ D' h
                    have hl := hDl D' h
                    exact ⟨hd.1, (Below.heap_alloc _ _ _ (by omega)).trans ((hfr.block D' hl (hMD D' h)).trans hd.2)⟩⟩
                bel := (hbq.trans (hfr.below (by rintro b (e | e | e | e) <;> omega) hbq.size)).alloc (by omega) _
                bU := (gbU.fr hfr hMU).alloc _
                bE := (gbE.fr hfr hME).alloc _ }
          · rw [cntW_eq (h1.alloc _), cntW_eq (h2.alloc _), cntW_eq P.bR, cntW_eq P.bC, boxT_eq rfl (blk_new W rfl _ _), boxT_eq rfl P.bB]
            cases t2
            · obtain ⟨a1, a2, _⟩ := hcl rfl
              rw [a1, a2]
              simp
            · have := hlt rfl
              simp
              omega
        case stop =>
          rintro D c pre W _ _ h _
          exact h.elim
end Go.Proofs.YtfkjkdoloamakaaDoor
