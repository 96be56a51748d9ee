import Derived.Test.YtfkjkdoloamakaaDoorQg
import Derived.Test.YtfkjkdoloamakaaDoorMf
import Derived.Test.YtfkjkdoloamakaaDoorPh
/- What begin, done, Start, Run, Profile, Way of package run leave, where Check's answer is known. -/
namespace Go.Proofs.YtfkjkdoloamakaaDoor
open Go.RowKit
set_option linter.unusedVariables false
set_option linter.unusedSimpArgs false
variable {w : World} {U : UnS} {Av Ab : Option Addr} {cv cb : Nat} {F F2 : Nat → Prop}

/-- a unit in memory that is handed in -/
structure UnIn (F : Nat → Prop) (w : World) (U : UnS) (Av : Option Addr) (cv : Nat) (Ab : Option Addr) (cb : Nat) : Prop where
  hs : Row F w (.slice Av U.sizes.length cv) U.sizes.length 1 (numV U.sizes)
  hr : RdBlocks F w (.slice Ab U.blocks.length cb) U.blocks
  hF : ∀ g, F g → g < w.heap.size
theorem UnIn.fr {M : Nat → Prop} {w' : World} (h : UnIn F w U Av cv Ab cb) (hf : Fr M w w') (hn : ∀ g, F g → ¬ M g) : UnIn F w' U Av cv Ab cb :=
  ⟨h.hs.fr hf hn, h.hr.fr hf hn, fun g hg => Nat.lt_of_lt_of_le (h.hF g hg) hf.size⟩
theorem UnIn.below {w' : World} (h : UnIn F w U Av cv Ab cb) (hb : Below w.heap.size w w') : UnIn F w' U Av cv Ab cb := h.fr (M := fun _ => False) (Fr.of_below hb) fun _ _ => not_false
theorem UnIn.all (h : UnIn F w U Av cv Ab cb) : UnIn (fun g => g < w.heap.size) w U Av cv Ab cb := ⟨h.hs.mono fun _ _ h => h, h.hr.mono fun _ _ h => h, fun _ h => h⟩
/-- what Check says of it, in every later world -/
def CkSays (w : World) (U : UnS) (Av : Option Addr) (cv : Nat) (Ab : Option Addr) (cb : Nat) (e : Int) : Prop :=
  ∀ W, Below w.heap.size w W → Calls Tryd.prog 18 #[unV U Av cv Ab cb] W fun x w' => x = .returned (.int .i64 e) ∧ Below W.heap.size W w'
theorem CkSays.below {w' : World} {e : Int} (h : CkSays w U Av cv Ab cb e) (hb : Below w.heap.size w w') : CkSays w' U Av cv Ab cb e := fun W hW => h W (hb.trans (hW.mono hb.size))
/-- the error of a run -/
def errOf (e : Int) (U : UnS) (n : Nat) (steps : Int) : Int := if e ≠ 0 then e else if (n : Int) = U.params ∧ 0 ≤ steps ∧ steps ≤ 4194304 then 0 else 2
def unC (U : UnS) (Av : Option Addr) (cv : Nat) (Ab : Option Addr) (cb : Nat) : Array Value := #[.slice Av U.sizes.length cv, .int .i64 U.params, .int .i64 U.regs, .int .i64 U.code, .int .i64 U.spill, .slice Ab U.blocks.length cb]

set_option maxRecDepth 100000 in
set_option maxHeartbeats 1000000 in
theorem begin_bad {e : Int} (hc : CkSays w U Av cv Ab cb e) (args : List Int) (Aa : Option Addr) (ca : Nat) (hl : args.length ≤ 4294967296) (steps : Int) (hE : errOf e U args.length steps ≠ 0) :
    Calls Tryd.prog 50 #[unV U Av cv Ab cb, .slice Aa args.length ca, .int .i64 steps] w fun x w' => x = .returned (.tuple #[.pointer none, .int .i64 (errOf e U args.length steps)]) ∧ Below w.heap.size w w' := by
  obtain ⟨W, hW⟩ : ∃ W, W = w.alloc (.cells (unC U Av cv Ab cb) 25) := ⟨_, rfl⟩
  have hb0 : Below w.heap.size w W := by rw [hW]; exact (Below.refl _ _).alloc (Nat.le_refl _) _
  have q1 : W.cell? ⟨w.heap.size, 1, none⟩ = some (.int .i64 U.params) := by rw [hW]; exact (blk_new w rfl _ _).cell 1
  have hw1 : w.heap.size < W.heap.size := by rw [hW]; simp
  have HW := Lib.hid hW
  have HC := Lib.hid (hc W hb0)
  have HB := Lib.hid hb0
  have HEE := Lib.hid hE
  clear hW hb0 hc
  unfold unC unV at *
  by_cases he : e = 0
  · subst he
    by_cases h1 : (args.length : Int) = U.params
    · have hb1 : ((args.length : Int) != U.params) = false := by simpa using h1
      have hx : ¬ (0 ≤ steps ∧ steps ≤ 4194304) := fun h => HEE.out (by simp [errOf, h1, h])
      have hE' : errOf 0 U args.length steps = 2 := by simp [errOf, h1]; omega
      rw [hE']
      clear h1 hE hE'
      by_cases hs : steps < 0
      · clear hx
        go_enter Tryd.func50, Tryd.ntmps50
        go_wp2_with (go_at_call 18; rw [← HW.out]; refine HC.out.mono ?_; rintro x w2 ⟨rfl, hb⟩; have q2 := (hb.cell (p := ⟨w.heap.size, 1, none⟩) hw1).trans q1; have HB2 := Lib.hid hb; clear hb)
        go_ret2
        exact ⟨rfl, HB.out.trans (HB2.out.mono HB.out.size)⟩
      · have hs2 : 4194304 < steps := by omega
        clear hx
        go_enter Tryd.func50, Tryd.ntmps50
        go_wp2_with (go_at_call 18; rw [← HW.out]; refine HC.out.mono ?_; rintro x w2 ⟨rfl, hb⟩; have q2 := (hb.cell (p := ⟨w.heap.size, 1, none⟩) hw1).trans q1; have HB2 := Lib.hid hb; clear hb)
        go_ret2
        exact ⟨rfl, HB.out.trans (HB2.out.mono HB.out.size)⟩
    · have hb1 : ((args.length : Int) != U.params) = true := by simpa using h1
      have hE' : errOf 0 U args.length steps = 2 := by simp [errOf, h1]
      rw [hE']
      clear h1 hE hE'
      go_enter Tryd.func50, Tryd.ntmps50
      go_wp2_with (go_at_call 18; rw [← HW.out]; refine HC.out.mono ?_; rintro x w2 ⟨rfl, hb⟩; have q2 := (hb.cell (p := ⟨w.heap.size, 1, none⟩) hw1).trans q1; have HB2 := Lib.hid hb; clear hb)
      go_ret2
      exact ⟨rfl, HB.out.trans (HB2.out.mono HB.out.size)⟩
  · have hE' : errOf e U args.length steps = e := by simp [errOf, he]
    rw [hE']
    have hb1 : (e != 0) = true := by simpa using he
    clear he hE hE'
    go_enter Tryd.func50, Tryd.ntmps50
    go_wp2_with (go_at_call 18; rw [← HW.out]; refine HC.out.mono ?_; rintro x w2 ⟨rfl, hb⟩; have HB2 := Lib.hid hb; clear hb)
    go_ret2
    exact ⟨rfl, HB.out.trans (HB2.out.mono HB.out.size)⟩
set_option maxRecDepth 100000 in
set_option maxHeartbeats 1000000 in
theorem begin_ok (hc : CkSays w U Av cv Ab cb 0) (G : UnGood U) (hu : UnIn F w U Av cv Ab cb) (args : List Int) (Aa : Option Addr) (ca : Nat) (hA : Row F2 w (.slice Aa args.length ca) args.length 1 (numV args)) (h1 : (args.length : Int) = U.params) (steps : Int) (h0 : 0 ≤ steps) (h2 : steps ≤ 4194304) :
    Calls Tryd.prog 50 #[unV U Av cv Ab cb, .slice Aa args.length ca, .int .i64 steps] w fun x w' => ∃ F' p, x = .returned (.tuple #[.pointer (some ⟨p, 0, none⟩), .int .i64 0]) ∧ EngX layP F' w (fun _ => False) w' p U (St.init U args) := by
  obtain ⟨W, hW⟩ : ∃ W, W = w.alloc (.cells (unC U Av cv Ab cb) 25) := ⟨_, rfl⟩
  have hb0 : Below w.heap.size w W := by rw [hW]; exact (Below.refl _ _).alloc (Nat.le_refl _) _
  have hw1 : w.heap.size < W.heap.size := by rw [hW]; simp
  have hq : Blk W w.heap.size 25 (unC U Av cv Ab cb) := by rw [hW]; exact blk_new w rfl _ _
  obtain ⟨p0, p1, p2⟩ := G.par
  have HW := Lib.hid hW
  have HC := Lib.hid (hc W hb0)
  have HB := Lib.hid hb0
  have HQ := Lib.hid hq
  have HU := Lib.hid hu.all
  have HA := Lib.hid (show Row (fun g => g < w.heap.size) w (.slice Aa args.length ca) args.length 1 (numV args) from hA.mono fun _ _ h => h)
  have HG := Lib.hid G
  have hb1 : ((args.length : Int) != U.params) = false := by simpa using h1
  have hal : (args.length : Int) ≤ U.regs := by omega
  have ha8 : args.length ≤ 8 := by omega
  clear hW hb0 hc hq hu hA G h1
  unfold unC unV at *
  go_enter Tryd.func50, Tryd.ntmps50
  go_wp2_with (first
    | (go_at_call 18; rw [← HW.out]; refine HC.out.mono ?_; rintro x w2 ⟨rfl, hb⟩; have hq2 := HQ.out.fr (M := fun _ => False) (Fr.of_below hb) not_false; have q0 : w2.cell? ⟨w.heap.size, 0, none⟩ = some (.slice Av U.sizes.length cv) := (hq2.cell 0).trans rfl; have q1 : w2.cell? ⟨w.heap.size, 1, none⟩ = some (.int .i64 U.params) := (hq2.cell 1).trans rfl; have q2 : w2.cell? ⟨w.heap.size, 2, none⟩ = some (.int .i64 U.regs) := (hq2.cell 2).trans rfl; have q3 : w2.cell? ⟨w.heap.size, 3, none⟩ = some (.int .i64 U.code) := (hq2.cell 3).trans rfl; have q4 : w2.cell? ⟨w.heap.size, 4, none⟩ = some (.int .i64 U.spill) := (hq2.cell 4).trans rfl; have q5 : w2.cell? ⟨w.heap.size, 5, none⟩ = some (.slice Ab U.blocks.length cb) := (hq2.cell 5).trans rfl; have HB2 := Lib.hid (HB.out.trans (hb.mono HB.out.size)); clear hb hq2)
    | (go_at_call 76; refine (start_any (HU.out.below HB2.out).hs (HU.out.below HB2.out).hr (HU.out.below HB2.out).hF HG.out args Aa ca ?ra hal ha8).mono ?_; (case ra => exact HA.out.fr (M := fun _ => False) (Fr.of_below HB2.out) fun _ _ => not_false); rintro x w3 ⟨F', p, rfl, E⟩))
  go_ret2
  obtain ⟨L, Q⟩ := E
  exact ⟨F', p, rfl, L, Q.e, (Fr.of_below HB2.out).then_ Q.f, fun b hb => .inr ((Q.m b hb).elim (fun h => h.elim) fun h => Nat.le_trans HB2.out.size h)⟩

theorem EngX.lift {w1 w' : World} {p : Nat} {s : St} {F' : Nat → Prop} (E : EngX layP F' w1 (fun _ => False) w' p U s) (hb : Below w.heap.size w w1) : EngX layP F' w (fun _ => False) w' p U s := by
  obtain ⟨L, Q⟩ := E
  exact ⟨L, Q.e, (Fr.of_below hb).then_ Q.f, fun b hb2 => .inr ((Q.m b hb2).elim (fun h => h.elim) fun h => Nat.le_trans hb.size h)⟩
set_option maxRecDepth 100000 in
theorem start_ok (hc : CkSays w U Av cv Ab cb 0) (G : UnGood U) (hu : UnIn F w U Av cv Ab cb) (args : List Int) (Aa : Option Addr) (ca : Nat) (hA : Row F2 w (.slice Aa args.length ca) args.length 1 (numV args)) (h1 : (args.length : Int) = U.params) :
    Calls Tryd.prog 21 #[unV U Av cv Ab cb, .slice Aa args.length ca] w fun x w' => ∃ F' p, x = .returned (.tuple #[.pointer (some ⟨p, 0, none⟩), .int .i64 0]) ∧ EngX layP F' w (fun _ => False) w' p U (St.init U args) := by
  have hb0 : Below w.heap.size w (w.alloc (.cells (unC U Av cv Ab cb) 25)) := (Below.refl _ _).alloc (Nat.le_refl _) _
  have HB := Lib.hid (hc.below hb0)
  have HU := Lib.hid (hu.below hb0)
  have HA := Lib.hid (hA.fr (M := fun _ => False) (Fr.of_below hb0) fun _ _ => not_false)
  have HG := Lib.hid G
  have H1 := Lib.hid h1
  have H0 := Lib.hid hb0
  clear hc hu hA G h1 hb0
  unfold unC unV at *
  go_enter Tryd.func21, Tryd.ntmps21
  go_wp2_with (go_at_call 50; refine (begin_ok HB.out HG.out HU.out args Aa ca HA.out H1.out 0 (Int.le_refl _) (by decide)).mono ?_; rintro x w3 ⟨F', p, rfl, E⟩)
  go_ret2
  exact ⟨F', p, rfl, E.lift H0.out⟩
theorem start_bad {e : Int} (hc : CkSays w U Av cv Ab cb e) (args : List Int) (Aa : Option Addr) (ca : Nat) (hl : args.length ≤ 4294967296) (hE : errOf e U args.length 0 ≠ 0) :
    Calls Tryd.prog 21 #[unV U Av cv Ab cb, .slice Aa args.length ca] w fun x w' => x = .returned (.tuple #[.pointer none, .int .i64 (errOf e U args.length 0)]) ∧ Below w.heap.size w w' := by
  have hb0 : Below w.heap.size w (w.alloc (.cells (unC U Av cv Ab cb) 25)) := (Below.refl _ _).alloc (Nat.le_refl _) _
  have HB := Lib.hid (hc.below hb0)
  have H0 := Lib.hid hb0
  have HE := Lib.hid hE
  clear hc hb0 hE
  unfold unC unV at *
  go_enter Tryd.func21, Tryd.ntmps21
  go_wp2_with (go_at_call 50; refine (begin_bad HB.out args Aa ca hl 0 HE.out).mono ?_; rintro x w3 ⟨rfl, hb⟩)
  go_ret2
  exact ⟨rfl, H0.out.trans (hb.mono H0.out.size)⟩
theorem done_bad {e : Int} (hc : CkSays w U Av cv Ab cb e) (args : List Int) (Aa : Option Addr) (ca : Nat) (hl : args.length ≤ 4294967296) (steps : Int) (hE : errOf e U args.length steps ≠ 0) :
    Calls Tryd.prog 39 #[unV U Av cv Ab cb, .slice Aa args.length ca, .int .i64 steps] w fun x w' => x = .returned (.tuple #[.pointer none, .int .i64 (errOf e U args.length steps)]) ∧ Below w.heap.size w w' := by
  have hb0 : Below w.heap.size w (w.alloc (.cells (unC U Av cv Ab cb) 25)) := (Below.refl _ _).alloc (Nat.le_refl _) _
  have HB := Lib.hid (hc.below hb0)
  have H0 := Lib.hid hb0
  have HE := Lib.hid hE
  obtain ⟨x0, hx0⟩ : ∃ x0, x0 = errOf e U args.length steps := ⟨_, rfl⟩
  have hn : (x0 == 0) = false := by rw [hx0]; simpa using hE
  have HX : Hid (errOf e U args.length steps = x0) := Lib.hid hx0.symm
  rw [← hx0]
  clear hc hb0 hE hx0
  unfold unC unV at *
  go_enter Tryd.func39, Tryd.ntmps39
  go_wp2_with (go_at_call 50; refine (begin_bad HB.out args Aa ca hl steps HE.out).mono ?_; rintro x w3 ⟨rfl, hb⟩; rw [HX.out]; have HB3 := Lib.hid hb; clear hb)
  go_ret2
  exact ⟨rfl, H0.out.trans (HB3.out.mono H0.out.size)⟩
set_option maxRecDepth 100000 in
theorem done_ok (hc : CkSays w U Av cv Ab cb 0) (G : UnGood U) (V : Env w) (hu : UnIn F w U Av cv Ab cb) (args : List Int) (Aa : Option Addr) (ca : Nat) (hA : Row F2 w (.slice Aa args.length ca) args.length 1 (numV args)) (h1 : (args.length : Int) = U.params) (steps : Int) (h0 : 0 ≤ steps) (h2 : steps ≤ 4194304) :
    Calls Tryd.prog 39 #[unV U Av cv Ab cb, .slice Aa args.length ca, .int .i64 steps] w fun x w' => ∃ F' p, x = .returned (.tuple #[.pointer (some ⟨p, 0, none⟩), .int .i64 0]) ∧ EngX layP F' w (fun _ => False) w' p U (St.run U steps.toNat (St.init U args)) := by
  have hb0 : Below w.heap.size w (w.alloc (.cells (unC U Av cv Ab cb) 25)) := (Below.refl _ _).alloc (Nat.le_refl _) _
  have S0 := StGood.init G args (by obtain ⟨_, _, p2⟩ := G.par; omega)
  have HB := Lib.hid (hc.below hb0)
  have HU := Lib.hid (hu.below hb0)
  have HA := Lib.hid (hA.fr (M := fun _ => False) (Fr.of_below hb0) fun _ _ => not_false)
  have HG := Lib.hid G
  have H1 := Lib.hid h1
  have H0 := Lib.hid hb0
  have HV := Lib.hid (V.below hb0)
  have HS := Lib.hid S0
  clear hc hu hA G h1 hb0 V S0
  unfold unC unV at *
  go_enter Tryd.func39, Tryd.ntmps39
  go_wp2_with (first
    | (go_at_call 50; refine (begin_ok HB.out HG.out HU.out args Aa ca HA.out H1.out steps h0 h2).mono ?_; rintro x w3 ⟨F', p, rfl, E⟩)
    | (go_at_call 22; refine (erun_any HS.out HG.out E HV.out not_false steps h0 h2 ?zs).mono ?_; (case zs => (show (0 : Int) ≤ _; omega)); rintro x w4 ⟨v, rfl, hv, E4⟩))
  go_ret2
  obtain ⟨L, Q, _⟩ := E4
  exact ⟨F', p, rfl, EngX.lift ⟨L, Q⟩ H0.out⟩
end Go.Proofs.YtfkjkdoloamakaaDoor

/- What Run, Profile, Way of package run answer, where Check's answer is known. -/
namespace Go.Proofs.YtfkjkdoloamakaaDoor
open Go.RowKit
set_option linter.unusedVariables false
set_option linter.unusedSimpArgs false
variable {w : World} {U : UnS} {Av Ab : Option Addr} {cv cb : Nat} {F F2 : Nat → Prop}

set_option maxRecDepth 100000 in
theorem run_bad {e : Int} (hc : CkSays w U Av cv Ab cb e) (args : List Int) (Aa : Option Addr) (ca : Nat) (hl : args.length ≤ 4294967296) (steps : Int) (hE : errOf e U args.length steps ≠ 0) :
    Calls Tryd.prog 12 #[unV U Av cv Ab cb, .slice Aa args.length ca, .int .i64 steps] w fun x w' => x = .returned (.tuple #[.agg #[.slice none 0 0, .int .i64 0, .int .i64 0], .int .i64 0, .int .i64 (errOf e U args.length steps)]) ∧ Below w.heap.size w w' := by
  obtain ⟨W, hW⟩ : ∃ W, W = (w.alloc (.cells (unC U Av cv Ab cb) 25)).alloc (.cells #[.slice none 0 0, .int .i64 0, .int .i64 0] 30) := ⟨_, rfl⟩
  have hb0 : Below w.heap.size w W := by rw [hW]; exact ((Below.refl _ _).alloc (Nat.le_refl _) _).alloc (by simp) _
  have hB : Blk W (w.heap.size + 1) 30 #[.slice none 0 0, .int .i64 0, .int .i64 0] := by rw [hW]; exact blk_new _ (by simp) _ _
  have hw1 := hB.lt
  have HW := Lib.hid hW
  have HB := Lib.hid (hc.below hb0)
  have H0 := Lib.hid hb0
  have HE := Lib.hid hE
  have HBB := Lib.hid hB
  obtain ⟨x0, hx0⟩ : ∃ x0, x0 = errOf e U args.length steps := ⟨_, rfl⟩
  have hn : (x0 != 0) = true := by rw [hx0]; simpa using hE
  have HX : Hid (errOf e U args.length steps = x0) := Lib.hid hx0.symm
  rw [← hx0]
  clear hc hb0 hE hx0 hB hW
  unfold unC unV at *
  go_enter Tryd.func12, Tryd.ntmps12
  go_wp2_with (go_at_call 39; rw [← HW.out]; refine (done_bad HB.out args Aa ca hl steps HE.out).mono ?_; rintro x w3 ⟨rfl, hb⟩; rw [HX.out]; have hB3 := Blk.fr (M := fun _ => False) HBB.out (Fr.of_below hb) not_false; have z0 : w3.cell? ⟨w.heap.size + 1, 0, none⟩ = some (.slice none 0 0) := (hB3.cell 0).trans rfl; have z1 : w3.cell? ⟨w.heap.size + 1, 1, none⟩ = some (.int .i64 0) := (hB3.cell 1).trans rfl; have z2 : w3.cell? ⟨w.heap.size + 1, 2, none⟩ = some (.int .i64 0) := (hB3.cell 2).trans rfl; have y0 := hB3.frozen 0; have y1 := hB3.frozen 1; have y2 := hB3.frozen 2; have HB3 := Lib.hid hb; clear hb hB3)
  refine bodyPost_ret (v := .tuple #[.agg #[.slice none 0 0, .int .i64 0, .int .i64 0], .int .i64 0, .int .i64 x0]) (by simp [results, Tryd.results12, go_sem, *]) rfl ⟨rfl, ?_⟩
  exact ((((H0.out.trans (HB3.out.mono H0.out.size)).setCell (Nat.le_succ _) _).setCell (Nat.le_succ _) _).setCell (Nat.le_succ _) _)

set_option maxRecDepth 100000 in
set_option maxHeartbeats 1000000 in
theorem run_ok (hc : CkSays w U Av cv Ab cb 0) (G : UnGood U) (V : Env w) (hu : UnIn F w U Av cv Ab cb) (args : List Int) (Aa : Option Addr) (ca : Nat) (hA : Row F2 w (.slice Aa args.length ca) args.length 1 (numV args)) (h1 : (args.length : Int) = U.params) (steps : Int) (h0 : 0 ≤ steps) (h2 : steps ≤ 4194304) :
    Calls Tryd.prog 12 #[unV U Av cv Ab cb, .slice Aa args.length ca, .int .i64 steps] w fun x w' => ∃ v, x = .returned (.tuple #[.agg #[v, .int .i64 (kindO (St.run U steps.toNat (St.init U args)).kind), .int .i64 (St.run U steps.toNat (St.init U args)).val], .int .i64 (St.run U steps.toNat (St.init U args)).steps, .int .i64 0]) ∧ RdN w' v (St.run U steps.toNat (St.init U args)).prints ∧ Below w.heap.size w w' := by
  obtain ⟨W, hW⟩ : ∃ W, W = (w.alloc (.cells (unC U Av cv Ab cb) 25)).alloc (.cells #[.slice none 0 0, .int .i64 0, .int .i64 0] 30) := ⟨_, rfl⟩
  have hb0 : Below w.heap.size w W := by rw [hW]; exact ((Below.refl _ _).alloc (Nat.le_refl _) _).alloc (by simp) _
  have hB : Blk W (w.heap.size + 1) 30 #[.slice none 0 0, .int .i64 0, .int .i64 0] := by rw [hW]; exact blk_new _ (by simp) _ _
  have hw1 := hB.lt
  have S0 := StGood.init G args (by obtain ⟨_, _, p2⟩ := G.par; omega)
  have S1 := StGood.run G steps.toNat _ S0 (by show (0 : Int) + _ ≤ _; omega)
  obtain ⟨sF, hsF⟩ : ∃ sF, sF = St.run U steps.toNat (St.init U args) := ⟨_, rfl⟩
  rw [← hsF] at S1
  have HS := Lib.hid S1
  have HSF : Hid (St.run U steps.toNat (St.init U args) = sF) := Lib.hid hsF.symm
  rw [← hsF]
  have HW := Lib.hid hW
  have HC := Lib.hid (hc.below hb0)
  have HU := Lib.hid (hu.below hb0)
  have HA := Lib.hid (hA.fr (M := fun _ => False) (Fr.of_below hb0) fun _ _ => not_false)
  have HG := Lib.hid G
  have H1 := Lib.hid h1
  have H0 := Lib.hid hb0
  have HV := Lib.hid (V.below hb0)
  have HBB := Lib.hid hB
  clear hc hu hA G h1 hb0 V hW hB S0 S1 hsF
  unfold unC unV at *
  go_enter Tryd.func12, Tryd.ntmps12
  go_wp2_with (go_at_call 39; rw [← HW.out]; refine (done_ok HC.out HG.out HV.out HU.out args Aa ca HA.out H1.out steps h0 h2).mono ?_; rintro x w3 ⟨F', p, rfl, E⟩; rw [HSF.out] at E; obtain ⟨L, Q⟩ := E; have h12 := P12 Q.e; have hb := Q.f.below (B := W.heap.size) (fun _ h => h.elim) (Nat.le_refl _); have hB3 := Blk.fr (M := fun _ => False) HBB.out Q.f not_false; have z0 : w3.cell? ⟨w.heap.size + 1, 0, none⟩ = some (.slice none 0 0) := (hB3.cell 0).trans rfl; have z1 : w3.cell? ⟨w.heap.size + 1, 1, none⟩ = some (.int .i64 0) := (hB3.cell 1).trans rfl; have z2 : w3.cell? ⟨w.heap.size + 1, 2, none⟩ = some (.int .i64 0) := (hB3.cell 2).trans rfl; have y0 := hB3.frozen 0; have y1 := hB3.frozen 1; have y2 := hB3.frozen 2; have lz := hB3.lt; have lp := Q.e.blk.lt; have np : p ≠ w.heap.size + 1 := ?np; (case np => (have h := (Q.m p (.inl rfl)).elim (fun h => False.elim h) id; omega)); have np' := np.symm; have HB3 := Lib.hid hb; have HQ := Lib.hid Q; have HBK := Lib.hid hB3; clear hb hB3 Q)
  obtain ⟨st, hst⟩ : ∃ st, st = sF.steps := ⟨_, rfl⟩
  rw [← hst] at h12
  have HST : Hid (sF.steps = st) := Lib.hid hst.symm
  clear hst
  go_region_held3 (fun w' => w'.cell? ⟨p, 12, none⟩ = some (.int .i64 st)) (first | exact k0 | (go_keep; done))
    (first | (go_at_call 40; refine (outcome_any HS.out (HQ.out.drewN 1).x).mono ?_; rintro e w4 ⟨v, rfl, hv, hb⟩; obtain ⟨A1, c1, rfl⟩ := own_shape hv; have k0 := (hb.cell (p := ⟨p, 12, none⟩) ?za).trans h12; (case za => exact lp); have hB4 := Blk.fr (M := fun _ => False) (w := w3.drewN 1) (HBK.out.drewN 1) (Fr.of_below hb) not_false; have x0 : w4.cell? ⟨w.heap.size + 1, 0, none⟩ = some (.slice none 0 0) := (hB4.cell 0).trans rfl; have x1 : w4.cell? ⟨w.heap.size + 1, 1, none⟩ = some (.int .i64 0) := (hB4.cell 1).trans rfl; have x2 : w4.cell? ⟨w.heap.size + 1, 2, none⟩ = some (.int .i64 0) := (hB4.cell 2).trans rfl; have v0 := hB4.frozen 0; have v1 := hB4.frozen 1; have v2 := hB4.frozen 2; have HB4 := Lib.hid hB4; clear hB4))
  go_wp2
  refine bodyPost_ret (v := .tuple #[.agg #[.slice A1 sF.prints.length c1, .int .i64 (kindO sF.kind), .int .i64 sF.val], .int .i64 st, .int .i64 0]) (by simp [results, Tryd.results12, go_sem, *]) rfl ⟨_, by rw [HST.out], ?_, ?_⟩
  · refine ⟨fun g => w3.heap.size ≤ g, (Row.of_own (N := fun g => w3.heap.size ≤ g) hv (fun b h => h) (by decide)).fr (M := fun b => b = w.heap.size + 1) (Fr.three _ _ _ _ _ _ _ _) (fun g hg e => ?_)⟩
    have e' : g = w.heap.size + 1 := e
    omega
  · have hbb : Below w.heap.size w w4 := (H0.out.trans (HB3.out.mono H0.out.size)).trans (Below.mono (w := w3) (B' := w.heap.size) ⟨hb.os, hb.tape, hb.output, hb.size, hb.block⟩ (Nat.le_trans H0.out.size HB3.out.size))
    exact (((hbb.setCell (Nat.le_succ _) _).setCell (Nat.le_succ _) _).setCell (Nat.le_succ _) _)
end Go.Proofs.YtfkjkdoloamakaaDoor

/- The example that every law ends with: alive answers true. -/
namespace Go.Proofs.YtfkjkdoloamakaaDoor
open Go.RowKit
set_option linter.unusedVariables false
set_option linter.unusedSimpArgs false
variable {w : World}

def aliveU : UnS := ⟨[], 2, 3, 0, 0, [⟨[⟨23, 2, 0, 1, 0, 0, -1⟩, ⟨20, 0, 2, 0, 0, 0, -1⟩], ⟨3, 1, 0, 0⟩, -1⟩]⟩
theorem alive1 : kindO (St.run aliveU (100 : Int).toNat (St.init aliveU [1, 0])).kind = 2 ∧ (St.run aliveU (100 : Int).toNat (St.init aliveU [1, 0])).val = -2 ∧ (St.run aliveU (100 : Int).toNat (St.init aliveU [1, 0])).steps = 2 ∧ (St.run aliveU (100 : Int).toNat (St.init aliveU [1, 0])).prints = [] := of_decide_eq_true (by kernel_rfl)
theorem alive2 : kindO (St.run aliveU (100 : Int).toNat (St.init aliveU [6, 2])).kind = 1 ∧ (St.run aliveU (100 : Int).toNat (St.init aliveU [6, 2])).val = 2 ∧ (St.run aliveU (100 : Int).toNat (St.init aliveU [6, 2])).steps = 3 ∧ (St.run aliveU (100 : Int).toNat (St.init aliveU [6, 2])).prints = [3] := of_decide_eq_true (by kernel_rfl)
theorem useR_in {U : UnS} {u m r : Int} (h : bits .and .i64 u m ≠ 0) (hr : inR r U.regs) : useR U u m r := ⟨fun _ => hr, fun e => absurd e h⟩
theorem useR_no {U : UnS} {u m r : Int} (h : bits .and .i64 u m = 0) (hr : r = 0) : useR U u m r := ⟨fun e => absurd h e, fun _ => hr⟩
theorem alive_fine : UnFine aliveU where
  nb := by decide
  mb := by decide
  r1 := by decide
  r2 := by decide
  sp := by decide
  sp2 := by decide
  p1 := by decide
  p2 := by decide
  p3 := by decide
  cd := by unfold inR; decide
  ns := by decide
  sz := fun n hn => by simp [aliveU] at hn
  bls := fun b hb => by
    simp only [aliveU, List.mem_singleton] at hb
    subst hb
    exact
      { ops := fun o ho => by
          simp only [List.mem_cons, List.not_mem_nil, or_false] at ho
          rcases ho with rfl | rfl
          · exact { k1 := by decide, k2 := by decide, d := useR_in (by decide) (by unfold inR; decide), a := useR_in (by decide) (by unfold inR; decide), b := useR_in (by decide) (by unfold inR; decide), c := useR_no (by decide) rfl, g := .inl rfl, n1 := fun h => absurd (by decide) h, n2 := fun h => absurd (by decide) h, n3 := fun h => absurd (by decide) h, n0 := fun _ => rfl }
          · exact { k1 := by decide, k2 := by decide, d := useR_no (by decide) rfl, a := useR_in (by decide) (by unfold inR; decide), b := useR_no (by decide) rfl, c := useR_no (by decide) rfl, g := .inl rfl, n1 := fun h => absurd (by decide) h, n2 := fun h => absurd (by decide) h, n3 := fun h => absurd (by decide) h, n0 := fun _ => rfl }
        ed := { k1 := by decide, k2 := by decide, a := ⟨fun _ => by unfold inR; decide, fun h => absurd h (by decide)⟩, t := ⟨fun h => absurd h (by decide), fun _ => rfl⟩, l := ⟨fun h => absurd h (by decide), fun _ => rfl⟩ }
        ct := .inl rfl
        len := by decide }
  sum := by decide
theorem op_fine_good {U : UnS} (h1 : 1 ≤ U.regs) {o : OpI} (h : OpFine U o) : OpGood U o := by
  have hz : inR 0 U.regs := ⟨Int.le_refl _, by omega⟩
  have use : ∀ {u m r : Int}, useR U u m r → inR r U.regs := fun {u m r} hu => by
    by_cases hb : bits .and .i64 u m = 0
    · rw [hu.2 hb]; exact hz
    · exact hu.1 hb
  obtain ⟨k, d, a, b, c, n, g⟩ := o
  exact
    { k1 := h.k1, k2 := h.k2, d := use h.d, a := use h.a, b := use h.b, c := use h.c, g := h.g,
      arr := fun hk => h.n1 (by simp only at hk ⊢; rcases hk with rfl | rfl | rfl <;> decide)
      cell := fun hk => h.n2 (by simp only at hk ⊢; rcases hk with rfl | rfl <;> decide)
      exit := fun hk => h.n3 (by simp only at hk ⊢; subst hk; decide) }
theorem ed_fine_good {U : UnS} (h1 : 1 ≤ U.regs) {e : EdS} (h : EdFine U e) : EdGood U e where
  k1 := h.k1
  k2 := h.k2
  a := by
    by_cases hk : e.k = 1
    · rw [h.a.2 hk]; exact ⟨Int.le_refl _, by omega⟩
    · exact h.a.1 hk
  t := fun hk => h.t.1 (by omega)
  l := fun hk => h.l.1 hk
theorem fine_good {U : UnS} (h : UnFine U) : UnGood U where
  nb := h.nb
  mb := h.mb
  r1 := h.r1
  r2 := h.r2
  sp := h.sp
  sp2 := h.sp2
  par := ⟨h.p1, h.p2, h.p3⟩
  cd := h.cd
  ns := h.ns
  sz := h.sz
  bls := fun b hb => ⟨fun o ho => op_fine_good h.r1 ((h.bls b hb).ops o ho), ed_fine_good h.r1 (h.bls b hb).ed, (h.bls b hb).ct, (h.bls b hb).len⟩
theorem ck_fine {U : UnS} {F : Nat → Prop} {Av Ab : Option Addr} {cv cb : Nat} (h : UnFine U) (hu : UnIn F w U Av cv Ab cb) (V : Env w) : CkSays w U Av cv Ab cb 0 := fun W hb =>
  check_ok h (hu.below hb).hs (hu.below hb).hr (hu.below hb).hF (V.below hb)

theorem row_blk {W : World} {g n size : Nat} {t : TypeId} {xs : List Value} (h : Blk W g t xs.toArray) (hl : xs.length = n * size) (hn : n ≤ maxLen) : Row (fun b => b < W.heap.size) W (.slice (some ⟨g, 0, none⟩) n n) n size xs :=
  ⟨hl, _, _, rfl, Nat.le_refl _, hn, fun _ => ⟨g, 0, rfl, h.lt, h.lt, fun j u hu => by rw [Nat.zero_add, h.cell, List.getElem?_toArray]; exact hu⟩⟩
theorem alive_in {W : World} {g : Nat} (h1 : Blk W g 76 (opsC [⟨23, 2, 0, 1, 0, 0, -1⟩, ⟨20, 0, 2, 0, 0, 0, -1⟩]).toArray) (h2 : Blk W (g + 1) 73 #[.slice (some ⟨g, 0, none⟩) 2 2, .int .i64 3, .int .i64 1, .int .i64 0, .int .i64 0, .int .i64 (-1)]) : UnIn (fun b => b < W.heap.size) W aliveU none 0 (some ⟨g + 1, 0, none⟩) 1 := by
  refine ⟨⟨rfl, none, 0, rfl, Nat.le_refl _, by unfold maxLen; omega, fun h => absurd h (by decide)⟩, ⟨[.slice (some ⟨g, 0, none⟩) 2 2], rfl, ?_, fun i hi => ?_⟩, fun _ h => h⟩
  · exact row_blk (n := 1) (size := 6) h2 rfl (by unfold maxLen; omega)
  · have : i = 0 := by simp [aliveU] at hi; exact hi
    subst this
    exact row_blk (n := 2) (size := 7) h1 rfl (by unfold maxLen; omega)
theorem Blk.below {w' : World} {g : Nat} {t : TypeId} {cs : Array Value} (h : Blk w g t cs) (hb : Below w.heap.size w w') : Blk w' g t cs := h.fr (M := fun _ => False) (Fr.of_below hb) not_false

set_option maxRecDepth 100000 in
set_option maxHeartbeats 1000000 in
theorem alive_true (V : Env w) : Calls Tryd.prog 16 #[] w fun x w' => x = .returned (.bool true) ∧ Below w.heap.size w w' := by
  obtain ⟨W, hW⟩ : ∃ W, W = ((w.alloc (.cells (opsC [⟨23, 2, 0, 1, 0, 0, -1⟩, ⟨20, 0, 2, 0, 0, 0, -1⟩]).toArray 76)).alloc (.cells #[.slice (some ⟨w.heap.size, 0, none⟩) 2 2, .int .i64 3, .int .i64 1, .int .i64 0, .int .i64 0, .int .i64 (-1)] 73)).alloc (.cells #[.slice none 0 0, .int .i64 2, .int .i64 3, .int .i64 0, .int .i64 0, .slice (some ⟨w.heap.size + 1, 0, none⟩) 1 1] 25) := ⟨_, rfl⟩
  have hb0 : Below w.heap.size w W := by rw [hW]; exact (((Below.refl _ _).alloc (Nat.le_refl _) _).alloc (by simp) _).alloc (by simp; omega) _
  have b1 : Blk W w.heap.size 76 (opsC [⟨23, 2, 0, 1, 0, 0, -1⟩, ⟨20, 0, 2, 0, 0, 0, -1⟩]).toArray := by rw [hW]; exact ((blk_new w rfl _ _).alloc _).alloc _
  have b2 : Blk W (w.heap.size + 1) 73 #[.slice (some ⟨w.heap.size, 0, none⟩) 2 2, .int .i64 3, .int .i64 1, .int .i64 0, .int .i64 0, .int .i64 (-1)] := by rw [hW]; exact (blk_new _ (by simp) _ _).alloc _
  have b3 : Blk W (w.heap.size + 1 + 1) 25 #[.slice none 0 0, .int .i64 2, .int .i64 3, .int .i64 0, .int .i64 0, .slice (some ⟨w.heap.size + 1, 0, none⟩) 1 1] := by rw [hW]; exact blk_new _ (by simp) _ _
  have hz : W.heap.size = w.heap.size + 1 + 1 + 1 := by rw [hW]; simp
  have V1 := V.below hb0
  -- the first run
  have b1a := b1.alloc (.cells #[.int .i64 1, .int .i64 0] 2)
  have b2a := b2.alloc (.cells #[.int .i64 1, .int .i64 0] 2)
  have b3a := b3.alloc (.cells #[.int .i64 1, .int .i64 0] 2)
  have hba : Below w.heap.size w (W.alloc (.cells #[.int .i64 1, .int .i64 0] 2)) := hb0.alloc hb0.size _
  have u1 := alive_in b1a b2a
  have r1 := row_blk (n := 2) (size := 1) (xs := numV [1, 0]) (blk_new W hz.symm 2 #[.int .i64 1, .int .i64 0]) rfl (by unfold maxLen; omega)
  have K1 := run_ok (ck_fine alive_fine u1 (V.below hba)) (fine_good alive_fine) (V.below hba) u1 [1, 0] _ _ r1 rfl 100 (by decide) (by decide)
  rw [alive1.1, alive1.2.1, alive1.2.2.1, alive1.2.2.2] at K1
  have HW := Lib.hid hW
  have HK := Lib.hid K1
  have HB1 := Lib.hid b1a
  have HB2 := Lib.hid b2a
  have HB3 := Lib.hid b3a
  have HBA := Lib.hid hba
  have HV := Lib.hid V
  have HZ := Lib.hid hz
  clear V V1 hb0 b1 b2 b3 hW b1a b2a b3a hba u1 r1 K1 hz
  go_enter Tryd.func16, Tryd.ntmps16
  go_wp2_with fail
  have HWo := HW.out
  simp only [opsC, opC, List.cons_append, List.nil_append] at HWo
  rw [← HWo]
  refine HK.out.mono ?_
  rintro x w2 ⟨v1, rfl, hr1, hb1⟩
  clear HWo
  have c1 := HB1.out.below hb1
  have c2 := HB2.out.below hb1
  have c3 := HB3.out.below hb1
  have hba : Below w.heap.size w w2 := HBA.out.trans (hb1.mono HBA.out.size)
  have q0 : w2.cell? ⟨w.heap.size + 1 + 1, 0, none⟩ = some (.slice none 0 0) := (c3.cell 0).trans rfl
  have q1 : w2.cell? ⟨w.heap.size + 1 + 1, 1, none⟩ = some (.int .i64 2) := (c3.cell 1).trans rfl
  have q2 : w2.cell? ⟨w.heap.size + 1 + 1, 2, none⟩ = some (.int .i64 3) := (c3.cell 2).trans rfl
  have q3 : w2.cell? ⟨w.heap.size + 1 + 1, 3, none⟩ = some (.int .i64 0) := (c3.cell 3).trans rfl
  have q4 : w2.cell? ⟨w.heap.size + 1 + 1, 4, none⟩ = some (.int .i64 0) := (c3.cell 4).trans rfl
  have q5 : w2.cell? ⟨w.heap.size + 1 + 1, 5, none⟩ = some (.slice (some ⟨w.heap.size + 1, 0, none⟩) 1 1) := (c3.cell 5).trans rfl
  have lq := c3.lt
  have nq : w.heap.size + 1 + 1 ≠ w2.heap.size := by omega
  have nq' := nq.symm
  obtain ⟨A1, k1, rfl, _⟩ := hr1.shape
  have HR1 := Lib.hid hr1
  have HC1 := Lib.hid c1
  have HC2 := Lib.hid c2
  have HBA2 := Lib.hid hba
  clear hr1 c1 c2 c3 hba hb1 HK
  go_wp2_with fail
  obtain ⟨W2, hW2⟩ : ∃ W2, W2 = (w2.alloc (.cells #[.slice A1 0 k1, .int .i64 2, .int .i64 (-2)] 30)).alloc (.cells #[.int .i64 6, .int .i64 2] 2) := ⟨_, rfl⟩
  have hbx : Below w2.heap.size w2 W2 := by rw [hW2]; exact ((Below.refl _ _).alloc (Nat.le_refl _) _).alloc (by simp) _
  have hby : Below w.heap.size w W2 := HBA2.out.trans (hbx.mono HBA2.out.size)
  have d1 := HC1.out.below hbx
  have d2 := HC2.out.below hbx
  have d3 : Blk W2 w2.heap.size 30 #[.slice A1 0 k1, .int .i64 2, .int .i64 (-2)] := by rw [hW2]; exact (blk_new _ rfl _ _).alloc _
  have d4 : Blk W2 (w2.heap.size + 1) 2 #[.int .i64 6, .int .i64 2] := by rw [hW2]; exact blk_new _ (by simp) _ _
  have u2 := alive_in d1 d2
  have r2 := row_blk (n := 2) (size := 1) (xs := numV [6, 2]) d4 rfl (by unfold maxLen; omega)
  have K2 := run_ok (ck_fine alive_fine u2 (HV.out.below hby)) (fine_good alive_fine) (HV.out.below hby) u2 [6, 2] _ _ r2 rfl 100 (by decide) (by decide)
  rw [alive2.1, alive2.2.1, alive2.2.2.1, alive2.2.2.2] at K2
  have HW2 := Lib.hid hW2
  rw [← HW2.out]
  refine K2.mono ?_
  rintro x w3 ⟨v2, rfl, hr2, hb2⟩
  obtain ⟨A2, k2, rfl, _⟩ := hr2.shape
  have e3 := d3.below hb2
  have p0 : w3.cell? ⟨w2.heap.size, 0, none⟩ = some (.slice A1 0 k1) := (e3.cell 0).trans rfl
  have p1 : w3.cell? ⟨w2.heap.size, 1, none⟩ = some (.int .i64 2) := (e3.cell 1).trans rfl
  have p2 : w3.cell? ⟨w2.heap.size, 2, none⟩ = some (.int .i64 (-2)) := (e3.cell 2).trans rfl
  have lp := e3.lt
  have np : w2.heap.size ≠ w3.heap.size := by omega
  have np' := np.symm
  have hbz : Below w.heap.size w w3 := hby.trans (hb2.mono hby.size)
  have HR1' := Lib.hid ((HR1.out.below hbx).below hb2)
  have HR2 := Lib.hid hr2
  have HBZ := Lib.hid hbz
  clear d1 d2 d3 d4 u2 r2 K2 hW2 hbx hby e3 hbz hr2 hb2 q0 q1 q2 q3 q4 q5 HC1 HC2 HR1
  go_wp2_with fail
  refine (outs_true 2 (-2) [] (HR1'.out.below ?_) (RdN.nil _) (by decide)).mono ?_
  · exact (Below.refl _ _).alloc (Nat.le_refl _) _
  rintro x w4 ⟨rfl, hb4⟩
  have hs4 := hb4.size
  simp only [World.size_alloc] at hs4
  have e4 : Blk w4 w3.heap.size 30 #[.slice A2 [(3 : Int)].length k2, .int .i64 1, .int .i64 2] := (blk_new w3 rfl _ _).below hb4
  have p0 : w4.cell? ⟨w3.heap.size, 0, none⟩ = some (.slice A2 1 k2) := (e4.cell 0).trans rfl
  have p1 : w4.cell? ⟨w3.heap.size, 1, none⟩ = some (.int .i64 1) := (e4.cell 1).trans rfl
  have p2 : w4.cell? ⟨w3.heap.size, 2, none⟩ = some (.int .i64 2) := (e4.cell 2).trans rfl
  have np3 : w3.heap.size ≠ w4.heap.size := by omega
  have np3' := np3.symm
  have HB4 := Lib.hid hb4
  clear e4 hb4
  go_wp2_with fail
  refine (outs_true 1 2 [3] (((HR2.out.below ?_).below HB4.out).below ?_) ⟨_, row_blk (n := 1) (size := 1) (xs := numV [3]) (blk_new w4 rfl 2 #[.int .i64 3]) rfl (by unfold maxLen; omega)⟩ (by decide)).mono ?_
  · exact (Below.refl _ _).alloc (Nat.le_refl _) _
  · exact (Below.refl _ _).alloc (Nat.le_refl _) _
  rintro x w5 ⟨rfl, hb5⟩
  have hs5 := hb5.size
  simp only [World.size_alloc] at hs5
  go_wp2
  go_ret
  refine ⟨rfl, ?_⟩
  have z1 : Below w.heap.size w (w3.alloc (.cells #[.slice A2 [(3 : Int)].length k2, .int .i64 1, .int .i64 2] 30)) := HBZ.out.alloc HBZ.out.size _
  have z2 : Below w.heap.size w w4 := z1.trans (HB4.out.mono z1.size)
  have z3 : Below w.heap.size w (w4.alloc (.cells #[.int .i64 3] 2)) := z2.alloc z2.size _
  exact z3.trans (hb5.mono z3.size)
end Go.Proofs.YtfkjkdoloamakaaDoor

/- Check of package code, of any unit: its error. -/
namespace Go.Proofs.YtfkjkdoloamakaaDoor
open Go.RowKit
set_option linter.unusedVariables false
set_option linter.unusedSimpArgs false
variable {w : World} {c : Nat} {U : UnS} {Av Ab : Option Addr} {cv cb : Nat} {F : Nat → Prop}

/-- the error of a unit -/
def unErr (U : UnS) : Int :=
  if ¬ (U.sizes.length ≤ 16 ∧ 0 < U.blocks.length ∧ U.blocks.length ≤ 2000 ∧ U.regs ≤ 4096 ∧ U.spill ≤ 4096) then 3
  else if ¬ ∀ n ∈ U.sizes, 1 ≤ n ∧ n ≤ 65536 then 2
  else if ¬ (1 ≤ U.regs ∧ 0 ≤ U.spill ∧ 0 ≤ U.params ∧ U.params ≤ 8 ∧ U.params ≤ U.regs ∧ inR U.code U.regs) then 2
  else tailErr U
theorem unit_any (B : ∃ x y, Blk w c 132 (ckC U Av cv Ab cb x y)) (hs : Row F w (.slice Av U.sizes.length cv) U.sizes.length 1 (numV U.sizes)) (hr : RdBlocks F w (.slice Ab U.blocks.length cb) U.blocks) (hF : ∀ g, F g → g ≠ c) (V : Env w) (hgf : c ≠ 0) (hlen : ∀ b ∈ U.blocks, b.ops.length ≤ 4294967296) (hbig : U.sizes.length ≤ 4294967296 ∧ U.blocks.length ≤ 4294967296) :
    Calls Tryd.prog 75 #[.pointer (some ⟨c, 0, none⟩)] w fun x w' => OutP (unErr U) x ∧ Fr (fun b => b = c) w w' := by
  have bad : ∀ {e : Int}, unErr U = e → e ≠ 0 → (Calls Tryd.prog 75 #[.pointer (some ⟨c, 0, none⟩)] w fun x w' => Died e x ∧ Below w.heap.size w w') → Calls Tryd.prog 75 #[.pointer (some ⟨c, 0, none⟩)] w fun x w' => OutP (unErr U) x ∧ Fr (fun b => b = c) w w' :=
    fun h h0 hc => hc.mono fun x w' ⟨h1, h2⟩ => ⟨outP_died h h0 h1, Fr.of_below h2⟩
  by_cases c1 : U.sizes.length ≤ 16
  case neg => exact bad (e := 3) (by unfold unErr; rw [if_pos (fun h => c1 h.1)]) (by decide) (unitx_lim1 (by omega) B hs hbig)
  by_cases c2 : 0 < U.blocks.length
  case neg => exact bad (e := 3) (by unfold unErr; rw [if_pos (fun h => c2 h.2.1)]) (by decide) (unitx_lim2 c1 (by omega) B hs hbig)
  by_cases c3 : U.blocks.length ≤ 2000
  case neg => exact bad (e := 3) (by unfold unErr; rw [if_pos (fun h => c3 h.2.2.1)]) (by decide) (unitx_lim3 c1 c2 (by omega) B hs hbig)
  by_cases c4 : U.regs ≤ 4096
  case neg => exact bad (e := 3) (by unfold unErr; rw [if_pos (fun h => c4 h.2.2.2.1)]) (by decide) (unitx_lim4 c1 c2 c3 (by omega) B hs hbig)
  by_cases c5 : U.spill ≤ 4096
  case neg => exact bad (e := 3) (by unfold unErr; rw [if_pos (fun h => c5 h.2.2.2.2)]) (by decide) (unitx_lim5 c1 c2 c3 c4 (by omega) B hs hbig)
  have hl : ¬ ¬ (U.sizes.length ≤ 16 ∧ 0 < U.blocks.length ∧ U.blocks.length ≤ 2000 ∧ U.regs ≤ 4096 ∧ U.spill ≤ 4096) := fun h => h ⟨c1, c2, c3, c4, c5⟩
  by_cases c6 : ∀ n ∈ U.sizes, 1 ≤ n ∧ n ≤ 65536
  case neg => exact bad (e := 2) (by unfold unErr; rw [if_neg hl, if_pos c6]) (by decide) (unitx_sizes c1 c2 c3 c4 c5 c6 B hs hbig)
  have hz : ¬ ¬ ∀ n ∈ U.sizes, 1 ≤ n ∧ n ≤ 65536 := fun h => h c6
  by_cases d1 : 1 ≤ U.regs
  case neg => exact bad (e := 2) (by unfold unErr; rw [if_neg hl, if_neg hz, if_pos (fun h => d1 h.1)]) (by decide) (unitx_regs c1 c2 c3 c4 c5 c6 (by omega) B hs hbig)
  by_cases d2 : 0 ≤ U.spill
  case neg => exact bad (e := 2) (by unfold unErr; rw [if_neg hl, if_neg hz, if_pos (fun h => d2 h.2.1)]) (by decide) (unitx_spill c1 c2 c3 c4 c5 c6 d1 (by omega) B hs hbig)
  by_cases d3 : 0 ≤ U.params
  case neg => exact bad (e := 2) (by unfold unErr; rw [if_neg hl, if_neg hz, if_pos (fun h => d3 h.2.2.1)]) (by decide) (unitx_par1 c1 c2 c3 c4 c5 c6 d1 d2 (by omega) B hs hbig)
  by_cases d4 : U.params ≤ 8
  case neg => exact bad (e := 2) (by unfold unErr; rw [if_neg hl, if_neg hz, if_pos (fun h => d4 h.2.2.2.1)]) (by decide) (unitx_par2 c1 c2 c3 c4 c5 c6 d1 d2 d3 (by omega) B hs hbig)
  by_cases d5 : U.params ≤ U.regs
  case neg => exact bad (e := 2) (by unfold unErr; rw [if_neg hl, if_neg hz, if_pos (fun h => d5 h.2.2.2.2.1)]) (by decide) (unitx_par3 c1 c2 c3 c4 c5 c6 d1 d2 d3 d4 (by omega) B hs hbig)
  by_cases d6 : inR U.code U.regs
  case neg => exact bad (e := 2) (by unfold unErr; rw [if_neg hl, if_neg hz, if_pos (fun h => d6 h.2.2.2.2.2)]) (by decide) (unitx_code c1 c2 c3 c4 c5 c6 d1 d2 d3 d4 d5 d6 B hs hbig)
  have e : unErr U = tailErr U := by unfold unErr; rw [if_neg hl, if_neg hz, if_neg (fun h => h ⟨d1, d2, d3, d4, d5, d6⟩)]
  rw [e]
  exact unit_blocks ⟨c2, c3, d1, c4, d2, c5, d3, d4, d5, d6, c1, c6⟩ B hs hr hF V hgf hlen

theorem assert_fault (b a e : Int) (W : World) : (Instr.typeAssert (.iface 105 (.agg #[.int .i64 b, .int .i64 a, .int .i64 e])) 20 105 true).run Tryd.prog W = .ok (.tuple #[.agg #[.int .i64 b, .int .i64 a, .int .i64 e], .bool true]) W := by kernel_rfl
/-- the mode of a frame in which the checker's panic stands -/
def panM (b a e : Int) (r : Bool) : FrameMode := .panicking [{ v := .iface 105 (.agg #[.int .i64 b, .int .i64 a, .int .i64 e]), recovered := r }]
set_option maxRecDepth 100000 in
/-- a panic of the checker is recovered: the fault is laid -/
theorem find1_pan (g : Nat) (b a e : Int) (w : World) (h0 : w.cell? ⟨g, 0, none⟩ = some (.int .i64 0)) (h1 : w.cell? ⟨g, 1, none⟩ = some (.int .i64 0)) (h2 : w.cell? ⟨g, 2, none⟩ = some (.int .i64 0))
    (f0 : w.frozen? ⟨g, 0, none⟩ = false) (f1 : w.frozen? ⟨g, 1, none⟩ = false) (f2 : w.frozen? ⟨g, 2, none⟩ = false) (hg : g < w.heap.size) :
    CallsD Tryd.prog 74 #[.pointer (some ⟨g, 0, none⟩)] (panM b a e false) w fun x u' w' => x = .returned (.tuple #[]) ∧ u' = panM b a e true ∧ Fr (fun i => i = g) w w' ∧ w'.cell? ⟨g, 0, none⟩ = some (.int .i64 b) ∧ w'.cell? ⟨g, 1, none⟩ = some (.int .i64 a) ∧ w'.cell? ⟨g, 2, none⟩ = some (.int .i64 e) := by
  have ng : g ≠ w.heap.size := by omega
  have ng' := ng.symm
  unfold panM
  refine callsD_of_wpS Tryd.func74 rfl fun c₀ cs hu => ?_
  apply wpS_seq
  apply wpS_region
  simp [wpOpsS, go_sem, recoverD, hu, Tryd.ntmps74, Exit.thenS]
  refine wpS_of_wp ?_
  change Code.wp _ _ _ ⟨#[.pointer (some ⟨g, 0, none⟩), .iface 105 (.agg #[.int .i64 b, .int .i64 a, .int .i64 e]), undef, undef, .iface 105 (.agg #[.int .i64 b, .int .i64 a, .int .i64 e]), undef, undef, undef, undef, undef, undef, undef, undef, undef, undef, undef], []⟩ w
  clear hu
  have hta := fun W : World => assert_fault b a e W
  go_wp2
  refine ⟨rfl, _, rfl, _, results_none rfl _ _ _, rfl, rfl, (Fr.three _ _ _ _ _ _ _ _).alloc _, ?_, ?_, ?_⟩
  · exact cellA ((cell_off (by decide)).trans ((cell_off (by decide)).trans (cell_put h0)))
  · exact cellA ((cell_off (by decide)).trans (cell_put ((cell_off (by decide)).trans h1)))
  · exact cellA (cell_put ((cell_off (by decide)).trans ((cell_off (by decide)).trans h2)))
set_option maxRecDepth 100000 in
set_option maxHeartbeats 1000000 in
theorem find_any (hu : UnIn F w U Av cv Ab cb) (V : Env w) (hlen : ∀ b ∈ U.blocks, b.ops.length ≤ 4294967296) (hbig : U.sizes.length ≤ 4294967296 ∧ U.blocks.length ≤ 4294967296) :
    Calls Tryd.prog 43 #[unV U Av cv Ab cb] w fun x w' => (∃ b a : Int, x = .returned (.agg #[.int .i64 b, .int .i64 a, .int .i64 (unErr U)])) ∧ Below w.heap.size w w' := by
  have hmf : ∀ (fn : Fn) (first cap : Array Value) (w : World), (Instr.makeFunc fn first cap).run Tryd.prog w = .ok (.func fn first cap) w := fun _ _ _ _ => rfl
  obtain ⟨W, hW⟩ : ∃ W, W = ((w.alloc (.cells #[.slice Av U.sizes.length cv, .int .i64 U.params, .int .i64 U.regs, .int .i64 U.code, .int .i64 U.spill, .slice Ab U.blocks.length cb] 25)).alloc (.cells #[.int .i64 0, .int .i64 0, .int .i64 0] 105)).alloc (.cells #[.slice Av U.sizes.length cv, .int .i64 U.params, .int .i64 U.regs, .int .i64 U.code, .int .i64 U.spill, .slice Ab U.blocks.length cb, .int .i64 0, .int .i64 0] 132) := ⟨_, rfl⟩
  have hb0 : Below w.heap.size w W := by rw [hW]; exact (((Below.refl _ _).alloc (Nat.le_refl _) _).alloc (by simp) _).alloc (by simp; omega) _
  have hz : W.heap.size = w.heap.size + 1 + 1 + 1 := by rw [hW]; simp
  have bf : Blk W (w.heap.size + 1) 105 #[.int .i64 0, .int .i64 0, .int .i64 0] := by rw [hW]; exact (blk_new _ (by simp) _ _).alloc _
  have bc : Blk W (w.heap.size + 1 + 1) 132 (ckC U Av cv Ab cb 0 0) := by rw [hW]; exact blk_new _ (by simp) _ _
  have hgl := lt_of_var gForms V
  have huW := hu.below hb0
  have K := unit_any (c := w.heap.size + 1 + 1) ⟨0, 0, bc⟩ huW.hs huW.hr (fun g hg e => by have := hu.hF g hg; omega) (V.below hb0) (by omega) hlen hbig
  have HW := Lib.hid hW
  have HK := Lib.hid K
  have HBF := Lib.hid bf
  have H0 := Lib.hid hb0
  have HZ := Lib.hid hz
  clear hu V hlen hbig hW hb0 hz bf bc huW K hgl
  unfold unV at *
  obtain ⟨ue, hue⟩ : ∃ ue, ue = unErr U := ⟨_, rfl⟩
  rw [← hue] at HK
  rw [← hue]
  clear hue
  go_enter_defers Tryd.func43, Tryd.ntmps43
  go_wp2_with fail
  rw [← HW.out]
  refine HK.out.mono ?_
  rintro x w2 ⟨hx, hf⟩
  have b2 := HBF.out.fr hf (fun e => by have e' : w.heap.size + 1 = w.heap.size + 1 + 1 := e; omega)
  have z0 : w2.cell? ⟨w.heap.size + 1, 0, none⟩ = some (.int .i64 0) := (b2.cell 0).trans rfl
  have z1 : w2.cell? ⟨w.heap.size + 1, 1, none⟩ = some (.int .i64 0) := (b2.cell 1).trans rfl
  have z2 : w2.cell? ⟨w.heap.size + 1, 2, none⟩ = some (.int .i64 0) := (b2.cell 2).trans rfl
  have y0 := b2.frozen 0
  have y1 := b2.frozen 1
  have y2 := b2.frozen 2
  have l2 := b2.lt
  have hW : Fr (fun b => w.heap.size ≤ b) w w2 := (Fr.of_below H0.out).then_ (hf.mono fun i hi => by have h' : i = w.heap.size + 1 + 1 := hi; omega)
  have HFF := Lib.hid hW
  clear hf b2 hW
  rcases outP_cases hx with ⟨rfl, rfl⟩ | ⟨he, b, a, rfl⟩
  · clear hx
    go_wp2
    refine leaves_cons (f := 74) (args := #[.pointer (some ⟨w.heap.size + 1, 0, none⟩)]) (by simp) (by simp [go_sem]) ?_
    refine (find1_idle ⟨w.heap.size + 1, 0, none⟩ _).mono ?_
    rintro e u' w'' ⟨rfl, rfl, rfl⟩
    simp [Leaves, settle, results, Tryd.results43, go_sem, *]
    exact (((HFF.out.setCell (p := ⟨w.heap.size + 1, 0, none⟩) (.inl (Nat.le_succ _)) _).setCell (p := ⟨w.heap.size + 1, 1, none⟩) (.inl (Nat.le_succ _)) _).setCell (p := ⟨w.heap.size + 1, 2, none⟩) (.inl (Nat.le_succ _)) _).below (fun b hb => hb) (Nat.le_refl _)
  · clear hx
    refine leaves_cons (f := 74) (args := #[.pointer (some ⟨w.heap.size + 1, 0, none⟩)]) (by simp) (by simp [go_sem]) ?_
    refine (find1_pan (w.heap.size + 1) b a ue _ z0 z1 z2 y0 y1 y2 l2).mono ?_
    rintro e u' w'' ⟨rfl, rfl, hf3, c0, c1, c2⟩
    have hb3 := (HFF.out.then_ (hf3.mono fun i hi => by have h' : i = w.heap.size + 1 := hi; omega)).below (fun b hb => hb) (Nat.le_refl _)
    have HB3 := Lib.hid hb3
    clear hb3 hf3 z0 z1 z2 y0 y1 y2
    simp [Leaves, settle, panM, results, Tryd.results43, go_sem, *]
    exact HB3.out
set_option maxRecDepth 100000 in
theorem check_any (hu : UnIn F w U Av cv Ab cb) (V : Env w) (hlen : ∀ b ∈ U.blocks, b.ops.length ≤ 4294967296) (hbig : U.sizes.length ≤ 4294967296 ∧ U.blocks.length ≤ 4294967296) :
    Calls Tryd.prog 18 #[unV U Av cv Ab cb] w fun x w' => x = .returned (.int .i64 (unErr U)) ∧ Below w.heap.size w w' := by
  have hb0 : Below w.heap.size w (w.alloc (.cells (unC U Av cv Ab cb) 25)) := (Below.refl _ _).alloc (Nat.le_refl _) _
  have HK := Lib.hid (find_any (hu.below hb0) (V.below hb0) hlen hbig)
  have H0 := Lib.hid hb0
  clear hu V hlen hbig hb0
  unfold unC unV at *
  obtain ⟨ue, hue⟩ : ∃ ue, ue = unErr U := ⟨_, rfl⟩
  rw [← hue] at HK
  rw [← hue]
  clear hue
  have hfl := fun (b a : Int) (w : World) => fault_e b a ue w
  go_enter Tryd.func18, Tryd.ntmps18
  go_wp2_with (go_at_call 43; refine HK.out.mono ?_; rintro x w2 ⟨⟨b, a, rfl⟩, hb⟩; have HB := Lib.hid hb; clear hb)
  go_ret
  exact ⟨rfl, H0.out.trans (HB.out.mono H0.out.size)⟩
theorem ck_any (hu : UnIn F w U Av cv Ab cb) (V : Env w) (hlen : ∀ b ∈ U.blocks, b.ops.length ≤ 4294967296) (hbig : U.sizes.length ≤ 4294967296 ∧ U.blocks.length ≤ 4294967296) : CkSays w U Av cv Ab cb (unErr U) := fun W hb =>
  check_any (hu.below hb) (V.below hb) hlen hbig
end Go.Proofs.YtfkjkdoloamakaaDoor

/- A unit of which Check says OK is a right unit. -/
namespace Go.Proofs.YtfkjkdoloamakaaDoor
open Go.RowKit
set_option linter.unusedVariables false
set_option linter.unusedSimpArgs false
variable {U : UnS}
theorem firstE_zero {α : Type} (f : α → Int) : ∀ l : List α, firstE (l.map f) = 0 → ∀ x ∈ l, f x = 0
  | [], _, x, hx => by simp at hx
  | y :: l, h, x, hx => by
    rw [List.map_cons, firstE] at h
    by_cases hy : f y = 0
    · rw [if_neg (fun hn => hn hy)] at h
      rcases List.mem_cons.mp hx with rfl | hx
      · exact hy
      · exact firstE_zero f l h x hx
    · rw [if_pos hy] at h
      exact absurd h hy
theorem use_bits (k : Int) (h1 : 1 ≤ k) (h2 : k ≤ 25) : (bits .and .i64 (usesK k) 32 ≠ 0 → bits .and .i64 (usesK k) 224 ≠ 0) ∧ (bits .and .i64 (usesK k) 64 ≠ 0 → bits .and .i64 (usesK k) 224 ≠ 0 ∧ bits .and .i64 (usesK k) 32 = 0) ∧ (bits .and .i64 (usesK k) 128 ≠ 0 → bits .and .i64 (usesK k) 224 ≠ 0 ∧ bits .and .i64 (usesK k) 32 = 0 ∧ bits .and .i64 (usesK k) 64 = 0) := by
  have h' : k = 1 ∨ k = 2 ∨ k = 3 ∨ k = 4 ∨ k = 5 ∨ k = 6 ∨ k = 7 ∨ k = 8 ∨ k = 9 ∨ k = 10 ∨ k = 11 ∨ k = 12 ∨ k = 13 ∨ k = 14 ∨ k = 15 ∨ k = 16 ∨ k = 17 ∨ k = 18 ∨ k = 19 ∨ k = 20 ∨ k = 21 ∨ k = 22 ∨ k = 23 ∨ k = 24 ∨ k = 25 := by omega
  rcases h' with rfl | rfl | rfl | rfl | rfl | rfl | rfl | rfl | rfl | rfl | rfl | rfl | rfl | rfl | rfl | rfl | rfl | rfl | rfl | rfl | rfl | rfl | rfl | rfl | rfl <;> decide
theorem op_zero {o : OpI} (h : opErr U o = 0) : OpFine U o := by
  unfold opErr at h
  split at h
  · cases h
  rename_i c1
  split at h
  · cases h
  rename_i c2
  split at h
  · cases h
  rename_i c3
  split at h
  · cases h
  rename_i c4
  obtain ⟨k1, k2⟩ := Classical.not_not.mp c1
  obtain ⟨b1, b2, b3⟩ := use_bits o.k k1 k2
  have hn : bits .and .i64 (usesK o.k) 224 ≠ 0 → inR o.n (topOf U (usesK o.k)) := fun hb => Classical.byContradiction fun hn => c3 ⟨hb, hn⟩
  exact
    { k1 := k1, k2 := k2
      d := ⟨fun hb => Classical.byContradiction fun hn => c2 (.inl ⟨hb, hn⟩), fun hb => Classical.byContradiction fun hn => c4 (.inl ⟨hb, hn⟩)⟩
      a := ⟨fun hb => Classical.byContradiction fun hn => c2 (.inr (.inl ⟨hb, hn⟩)), fun hb => Classical.byContradiction fun hn => c4 (.inr (.inl ⟨hb, hn⟩))⟩
      b := ⟨fun hb => Classical.byContradiction fun hn => c2 (.inr (.inr (.inl ⟨hb, hn⟩))), fun hb => Classical.byContradiction fun hn => c4 (.inr (.inr (.inl ⟨hb, hn⟩)))⟩
      c := ⟨fun hb => Classical.byContradiction fun hn => c2 (.inr (.inr (.inr (.inl ⟨hb, hn⟩)))), fun hb => Classical.byContradiction fun hn => c4 (.inr (.inr (.inr (.inl ⟨hb, hn⟩))))⟩
      g := Classical.byContradiction fun hn => c2 (.inr (.inr (.inr (.inr hn))))
      n1 := fun hb => by have := hn (b1 hb); rwa [topOf, if_pos hb] at this
      n2 := fun hb => by
        obtain ⟨q1, q2⟩ := b2 hb
        have := hn q1
        rwa [topOf, if_neg (fun h => h q2), if_pos hb] at this
      n3 := fun hb => by
        obtain ⟨q1, q2, q3⟩ := b3 hb
        have := hn q1
        rwa [topOf, if_neg (fun h => h q2), if_neg (fun h => h q3), if_pos hb] at this
      n0 := fun hb => Classical.byContradiction fun hn => c4 (.inr (.inr (.inr (.inr ⟨hb, hn⟩)))) }
theorem ed_zero {e : EdS} (h : edErr U e = 0) : EdFine U e := by
  unfold edErr at h
  split at h
  · cases h
  rename_i c1
  split at h
  · cases h
  rename_i c2
  split at h
  · cases h
  rename_i c3
  split at h
  · cases h
  rename_i c4
  obtain ⟨k1, k2⟩ := Classical.not_not.mp c1
  exact
    { k1 := k1, k2 := k2
      a := ⟨fun hb => Classical.byContradiction fun hn => c2 ⟨hb, hn⟩, fun hb => Classical.byContradiction fun hn => c4 (.inl ⟨hb, hn⟩)⟩
      t := ⟨fun hb => Classical.byContradiction fun hn => c3 (.inl ⟨hb, hn⟩), fun hb => Classical.byContradiction fun hn => c4 (.inr (.inl ⟨hb, hn⟩))⟩
      l := ⟨fun hb => Classical.byContradiction fun hn => c3 (.inr ⟨hb, hn⟩), fun hb => Classical.byContradiction fun hn => c4 (.inr (.inr ⟨hb, hn⟩))⟩ }
theorem bl_zero {b : BlkS} (h : blErr U b = 0) : BlFine U b := by
  unfold blErr at h
  split at h
  · cases h
  rename_i c1
  split at h
  · cases h
  rename_i c2
  split at h
  · rename_i c3; exact absurd h c3
  rename_i c3
  exact ⟨fun o ho => op_zero (firstE_zero _ _ (Classical.not_not.mp c3) o ho), ed_zero h, Classical.not_not.mp c1, by omega⟩
theorem un_zero (h : unErr U = 0) : UnFine U := by
  unfold unErr at h
  split at h
  · cases h
  rename_i c1
  split at h
  · cases h
  rename_i c2
  split at h
  · cases h
  rename_i c3
  obtain ⟨a1, a2, a3, a4, a5⟩ := Classical.not_not.mp c1
  obtain ⟨d1, d2, d3, d4, d5, d6⟩ := Classical.not_not.mp c3
  unfold tailErr at h
  split at h
  · rename_i c4; exact absurd h c4
  rename_i c4
  split at h
  · cases h
  rename_i c5
  exact ⟨a2, a3, d1, a4, d2, a5, d3, d4, d5, d6, a1, Classical.not_not.mp c2, fun b hb => bl_zero (firstE_zero _ _ (Classical.not_not.mp c4) b hb), by omega⟩
end Go.Proofs.YtfkjkdoloamakaaDoor

/- An append of any row that is read onto a row of the call's own; few, of the laws. -/
namespace Go.Proofs.YtfkjkdoloamakaaDoor
open Go.RowKit
set_option linter.unusedVariables false
set_option linter.unusedSimpArgs false
variable {w : World} {F : Nat → Prop}

theorem run_append_nil0 {P : Program} (w : World) (base : Nat) (t ty e : TypeId) (i : TypeInfo) (size : Nat) (ht : P.underlying t = some (.slice e)) (hi : P.info? e = some i) {v : Value} {n : Nat} {xs : List Value} (hown : w.ownsRow base e size v n xs) (c : Nat) :
    (Builtin.append_ #[t, t] ty #[v, .slice none 0 c]).run P w = .ok v w := by
  obtain ⟨_, h | ⟨g, cap, cur, h, _, _, hnc, _⟩⟩ := hown
  · obtain ⟨rfl, rfl⟩ := h
    simp [Builtin.append_, run_underlying ht, sizeOf, typeInfo, hi, Builtin.lenOf, Builtin.firstCells]
  · subst h
    simp [Builtin.append_, run_underlying ht, sizeOf, typeInfo, hi, Builtin.lenOf, Builtin.firstCells, hnc, storeCells]
theorem run_append_row {P : Program} (w : World) (base : Nat) (t ty e : TypeId) (i : TypeInfo) (z : Value) (size bytes : Nat) (ht : P.underlying t = some (.slice e)) (hi : P.info? e = some i) (hz : i.zero = some z)
    (hsize : i.size = size) (hby : i.bytes = bytes) (hzs : z.cells.size = size) (hsz : 0 < size)
    (v : Value) (n : Nat) (xs : List Value) (hown : w.ownsRow base e size v n xs) (A : Option Addr) (m c : Nat) (news : List Value) (hr : Row F w (.slice A m c) m size news) (h1 : ∀ u ∈ news, u.oneCell' = true)
    (h63 : n + m ≤ maxLen) (hbytes : (n + m) * bytes ≤ 140737488355328) (hbase : base ≤ w.heap.size) :
    ∃ v' w', (Builtin.append_ #[t, t] ty #[v, .slice A m c]).run P w = .ok v' w' ∧ w'.ownsRow base e size v' (n + m) (xs ++ news) ∧ w.grownBy w' v.ownBlock ∧ (v'.ownBlock = v.ownBlock ∨ v'.ownBlock = some w.heap.size) := by
  obtain ⟨hl, A', c', e1, _, _, hh⟩ := hr
  injection e1 with e1 _ e2
  subst e1 e2
  cases A with
  | none =>
    have hm : m = 0 := by
      rcases Nat.eq_zero_or_pos m with h | h
      · exact h
      · obtain ⟨g, o, h2, _⟩ := hh h
        cases h2
    subst hm
    rw [Nat.zero_mul] at hl
    obtain rfl := List.eq_nil_of_length_eq_zero hl
    exact ⟨v, w, run_append_nil0 w base t ty e i size ht hi hown c, by simpa using hown, World.grownBy.refl w _, .inl rfl⟩
  | some ad =>
    obtain ⟨v', w', hrun, h2, h3, _, h5⟩ := run_append_own_at (P := P) w base t ty e i z size bytes ht hi hz hsize hby hzs hsz v n xs hown ad m c news hl (fun j u hu => by
      have hm : 0 < m := by
        rcases Nat.eq_zero_or_pos m with h | h
        · subst h
          rw [Nat.zero_mul] at hl
          obtain rfl := List.eq_nil_of_length_eq_zero hl
          simp at hu
        · exact h
      obtain ⟨g, o, h2, _, _, h3⟩ := hh hm
      injection h2 with h2
      subst h2
      rw [Addr.add_lit]
      exact h3 j u hu) h1 h63 hbytes hbase
    exact ⟨v', w', hrun, h2, h3, h5⟩
theorem wpList_append_row {P : Program} {w : World} {ops : Array Oper} {rest : List Oper} {o : Oper} {a : Act} {Q : Exit → Act → World → Prop} (hgd : o.guard = none) (s x : Operand) (t : TypeId)
    (ho : o.op = .call { callee := .builtin .append, args := #[s, x], argTypes := #[t, t] })
    (base : Nat) (e : TypeId) (i : TypeInfo) (z : Value) (size bytes : Nat) (ht : P.underlying t = some (.slice e)) (hi : P.info? e = some i) (hz : i.zero = some z)
    (hsize : i.size = size) (hby : i.bytes = bytes) (hzs : z.cells.size = size) (hsz : 0 < size)
    (v : Value) (n : Nat) (xs : List Value) (hs : a.eval s = v) (hown : w.ownsRow base e size v n xs)
    (A : Option Addr) (m c : Nat) (news : List Value) (hx : a.eval x = .slice A m c) (hr : Row F w (.slice A m c) m size news) (h1 : ∀ u ∈ news, u.oneCell' = true)
    (h63 : n + m ≤ maxLen) (hbytes : (n + m) * bytes ≤ 140737488355328) (hbase : base ≤ w.heap.size)
    (h : ∀ v' w', w'.ownsRow base e size v' (n + m) (xs ++ news) → w.grownBy w' v.ownBlock → (v'.ownBlock = v.ownBlock ∨ v'.ownBlock = some w.heap.size) → wpList P ops Q rest (a.put o.dst v') w') :
    wpList P ops Q (o :: rest) a w := by
  obtain ⟨v', w', hrun, h2, h3, h4⟩ := run_append_row (P := P) w base t o.type e i z size bytes ht hi hz hsize hby hzs hsz v n xs hown A m c news hr h1 h63 hbytes hbase
  have hw : Region.wanted o (yielded ops a.tmps) = true := by simp [Region.wanted, hgd]
  simp only [wpList, hw, if_true]
  unfold Oper.wp execOp
  simp only [ho, resolve, invoke, builtin, Sem.run_bind, Sem.run_pure, Result.andThen_ok, List.map_toArray, List.map_cons, List.map_nil, hs, hx, hrun]
  exact .inl (h v' w' h2 h3 h4)
theorem step_append_row {P : Program} {w : World} {ops : Array Oper} {o : Oper} {a : Act} {K : Act → World → Prop} {Q : Exit → Act → World → Prop} {E : Prop} (hgd : o.guard = none) (s x : Operand) (t : TypeId)
    (ho : o.op = .call { callee := .builtin .append, args := #[s, x], argTypes := #[t, t] })
    (base : Nat) (e : TypeId) (i : TypeInfo) (z : Value) (size bytes : Nat) (ht : P.underlying t = some (.slice e)) (hi : P.info? e = some i) (hz : i.zero = some z)
    (hsize : i.size = size) (hby : i.bytes = bytes) (hzs : z.cells.size = size) (hsz : 0 < size)
    (v : Value) (n : Nat) (xs : List Value) (hs : a.eval s = v) (hown : w.ownsRow base e size v n xs)
    (A : Option Addr) (m c : Nat) (news : List Value) (hx : a.eval x = .slice A m c) (hr : Row F w (.slice A m c) m size news) (h1 : ∀ u ∈ news, u.oneCell' = true)
    (h63 : n + m ≤ maxLen) (hbytes : (n + m) * bytes ≤ 140737488355328) (hbase : base ≤ w.heap.size)
    (h : ∀ v' w', w'.ownsRow base e size v' (n + m) (xs ++ news) → w.grownBy w' v.ownBlock → (v'.ownBlock = v.ownBlock ∨ v'.ownBlock = some w.heap.size) → K (a.put o.dst v') w') :
    if Region.wanted o (yielded ops a.tmps) = true then Oper.wp P o a w K Q else E := by
  have hw : Region.wanted o (yielded ops a.tmps) = true := by simp [Region.wanted, hgd]
  rw [if_pos hw]
  obtain ⟨v', w', hrun, h2, h3, h4⟩ := run_append_row (P := P) w base t o.type e i z size bytes ht hi hz hsize hby hzs hsz v n xs hown A m c news hr h1 h63 hbytes hbase
  unfold Oper.wp execOp
  simp only [ho, resolve, invoke, builtin, Sem.run_bind, Sem.run_pure, Result.andThen_ok, List.map_toArray, List.map_cons, List.map_nil, hs, hx, hrun]
  exact h v' w' h2 h3 h4
theorem Row.take {A : Option Addr} {n c size k : Nat} {xs : List Value} (h : Row F w (.slice A n c) n size xs) (hk : k ≤ n) : Row F w (.slice A k c) k size (xs.take (k * size)) := by
  obtain ⟨hl, A', c', e1, h1, h2, hh⟩ := h
  injection e1 with e1 _ e2
  subst e1 e2
  refine ⟨by rw [List.length_take, hl]; exact Nat.min_eq_left (Nat.mul_le_mul_right _ hk), A, c, rfl, by omega, h2, fun hp => ?_⟩
  obtain ⟨g, o, e, hF, hlt, hc⟩ := hh (by omega)
  exact ⟨g, o, e, hF, hlt, fun j u hu => hc j u (by
    rw [List.getElem?_take] at hu
    split at hu
    · exact hu
    · cases hu)⟩
theorem own_empty (w : World) (base : Nat) (hb : base ≤ w.heap.size) (e : TypeId) (size : Nat) : (w.alloc (.cells #[] e)).ownsRow base e size (.slice (some ⟨w.heap.size, 0, none⟩) 0 0) 0 [] :=
  World.ownsRow_made w #[] 0 hb (Nat.zero_le _) (by simp)

set_option maxRecDepth 100000 in
theorem few_any (A : Option Addr) (c : Nat) (l : List Int) (hr : Row F w (.slice A l.length c) l.length 1 (numV l)) (hl : l.length ≤ maxLen) :
    Calls Tryd.prog 11 #[.slice A l.length c] w fun x w' => ∃ v, x = .returned v ∧ w'.ownsRow w.heap.size 2 1 v (l.take 9).length (numV (l.take 9)) ∧ Below w.heap.size w w' := by
  unfold maxLen at hl
  have hcl : l.length ≤ c := by obtain ⟨_, A', c', e1, h1, _⟩ := hr; injection e1 with _ _ e2; subst e2; exact h1
  obtain ⟨i0, hi, hz0, hz1, hz2⟩ := info_parts i64_info
  by_cases h9 : l.length ≤ 9
  · have h9' : (l.length : Int) ≤ 9 := by omega
    have e9 : l.take 9 = l := List.take_of_length_le h9
    have HE := Lib.hid e9
    have HR := Lib.hid hr
    clear hr e9
    go_enter Tryd.func11, Tryd.ntmps11
    go_wp2_with (at_builtin; refine wpList_append_row rfl _ _ 26 rfl w.heap.size 2 i0 (.int .i64 0) 1 8 Tryd.underlying26 hi hz0 hz1 hz2 rfl (by decide) _ _ _ rfl (own_empty w _ (Nat.le_refl _) _ _) A l.length c (numV l) rfl (HR.out.fr (M := fun _ => False) ((Fr.refl _ w).alloc _) fun _ _ => not_false) num_one ?q1 ?q2 ?q3 ?_; (case q1 => (unfold maxLen; omega)); (case q2 => omega); (case q3 => simp); intro v' w1 hown hg _)
    go_wp2
    go_ret
    rw [HE.out]
    exact ⟨v', rfl, by simpa using hown, ((Below.refl _ w).alloc (Nat.le_refl _) _).grown hg (by simp) (fun k hk => by injection hk with hk; exact Nat.le_of_eq hk)⟩
  · have h9' : (9 : Int) < l.length := by omega
    have hl9 : (l.take 9).length = 9 := by simp; omega
    have HL := Lib.hid hl9
    have HR := Lib.hid (hr.take (k := 9) (by omega))
    clear hr hl9
    go_enter Tryd.func11, Tryd.ntmps11
    go_wp2_with (at_builtin; refine wpList_append_row rfl _ _ 26 rfl w.heap.size 2 i0 (.int .i64 0) 1 8 Tryd.underlying26 hi hz0 hz1 hz2 rfl (by decide) _ _ _ rfl (own_empty w _ (Nat.le_refl _) _ _) A 9 c ((numV l).take (9 * 1)) rfl (HR.out.fr (M := fun _ => False) ((Fr.refl _ w).alloc _) fun _ _ => not_false) (fun u hu => num_one u (List.mem_of_mem_take hu)) ?q1 ?q2 ?q3 ?_; (case q1 => (unfold maxLen; omega)); (case q2 => omega); (case q3 => simp); intro v' w1 hown hg _)
    go_wp2
    go_ret
    rw [HL.out]
    exact ⟨v', rfl, by simpa [numV, List.map_take] using hown, ((Below.refl _ w).alloc (Nat.le_refl _) _).grown hg (by simp) (fun k hk => by injection hk with hk; exact Nat.le_of_eq hk)⟩
end Go.Proofs.YtfkjkdoloamakaaDoor

/- own, of the laws: as many arguments as a unit has parameters. -/
namespace Go.Proofs.YtfkjkdoloamakaaDoor
open Go.RowKit
set_option linter.unusedVariables false
set_option linter.unusedSimpArgs false
variable {w : World} {F : Nat → Prop} {U : UnS} {Av Ab : Option Addr} {cv cb : Nat}

def ownL (args : List Int) (k : Nat) : List Int := args.take k ++ List.replicate (k - args.length) 0
theorem ownL_length (args : List Int) (k : Nat) : (ownL args k).length = k := by simp [ownL]; omega
theorem ownL_next (args : List Int) (k : Nat) : ownL args (k + 1) = ownL args k ++ [args.getD k 0] := by
  unfold ownL
  by_cases h : k < args.length
  · rw [List.take_succ_eq_append_getElem h, show k + 1 - args.length = 0 by omega, show k - args.length = 0 by omega, List.getD_eq_getElem?_getD, List.getElem?_eq_getElem h]
    simp only [List.replicate_zero, List.append_nil, Option.getD_some]
  · rw [List.take_of_length_le (by omega), List.take_of_length_le (by omega), show k + 1 - args.length = (k - args.length) + 1 by omega, List.replicate_succ', List.getD_eq_getElem?_getD, List.getElem?_eq_none (by omega), List.append_assoc]
    rfl
def ownN (U : UnS) : Nat := min U.params.toNat 20
set_option maxRecDepth 100000 in
set_option maxHeartbeats 1000000 in
theorem own_any (args : List Int) (Aa : Option Addr) (ca : Nat) (hA : Row F w (.slice Aa args.length ca) args.length 1 (numV args)) (hl : args.length ≤ maxLen) :
    Calls Tryd.prog 20 #[unV U Av cv Ab cb, .slice Aa args.length ca] w fun x w' => ∃ v, x = .returned v ∧ w'.ownsRow w.heap.size 2 1 v (ownN U) (numV (ownL args (ownN U))) ∧ Below w.heap.size w w' := by
  unfold maxLen at hl
  obtain ⟨n, hn⟩ : ∃ n, n = ownN U := ⟨_, rfl⟩
  rw [← hn]
  have hn20 : n ≤ 20 := by rw [hn]; exact Nat.min_le_right _ _
  have HNP := Lib.hid hn
  obtain ⟨i0, hi, hz0, hz1, hz2⟩ := info_parts i64_info
  obtain ⟨W, hW⟩ : ∃ W, W = w.alloc (.cells (unC U Av cv Ab cb) 25) := ⟨_, rfl⟩
  have hb0 : Below w.heap.size w W := by rw [hW]; exact (Below.refl _ _).alloc (Nat.le_refl _) _
  have q1 : W.cell? ⟨w.heap.size, 1, none⟩ = some (.int .i64 U.params) := by rw [hW]; exact (blk_new w rfl _ _).cell 1
  have hz : w.heap.size < W.heap.size := by rw [hW]; simp
  have HW := Lib.hid hW
  have H0 := Lib.hid hb0
  have HA := Lib.hid hA
  have Q1 := Lib.hid q1
  clear hn hA hW hb0 q1
  unfold unV unC at *
  go_enter Tryd.func20, Tryd.ntmps20
  go_wp2
  rw [← HW.out]
  go_loopw [5, 6] (fun v5 v6 wr => ∃ k : Nat, k ≤ n ∧ v6 = .int .i64 k ∧ wr.ownsRow W.heap.size 2 1 v5 k (numV (ownL args k)) ∧ Below W.heap.size W wr) (fun _ v6 _ => n - (intOf v6).toNat)
  case atStart => exact ⟨0, Nat.zero_le _, rfl, by rw [show ownL args 0 = [] by simp [ownL]]; exact World.ownsRow_nil _ _ _ _, Below.refl _ _⟩
  case round =>
    obtain ⟨k, hk, rfl, ho, hb⟩ := hrel
    have q1 := (hb.cell (p := ⟨w.heap.size, 1, none⟩) hz).trans Q1.out
    have hsz := hb.size
    obtain ⟨A5, c5, rfl⟩ := own_shape ho
    have HO := Lib.hid ho
    have HB := Lib.hid hb
    clear ho hb
    by_cases hlt : k < n
    · have hp1 : (k : Int) < U.params := by have := HNP.out; unfold ownN at this; omega
      have hp2 : (k : Int) < 20 := by omega
      by_cases hka : k < args.length
      · obtain ⟨_, A0, c0, e0, _, _, hh⟩ := (HA.out.fr (M := fun _ => False) ((Fr.of_below H0.out).then_ (Fr.of_below HB.out)) (fun _ _ => not_false))
        obtain ⟨g0, o0, eA, _, _, hc⟩ := hh (by omega)
        have hck := hc k _ (by simp [numV, hka]; rfl)
        injection e0 with e1 _ e2
        rw [eA] at e1
        subst e1
        subst e2
        obtain ⟨x, hx⟩ : ∃ x, x = args[k] := ⟨_, rfl⟩
        rw [← hx] at hck
        have HX : Hid (ownL args (k + 1) = ownL args k ++ [x]) := Lib.hid (by rw [ownL_next, List.getD_eq_getElem?_getD, List.getElem?_eq_getElem hka, hx]; rfl)
        clear hx hh hc eA
        go_wp2_with (at_builtin; refine wpList_append_own_at _ rfl _ _ 26 rfl W.heap.size 2 i0 (.int .i64 0) 1 8 Tryd.underlying26 hi hz0 hz1 hz2 rfl (by decide) _ _ _ rfl (own_fr HO.out (M := fun _ => False) ((Fr.refl _ wr).alloc _) (fun _ _ => not_false)) ⟨wr.heap.size, 0, none⟩ 1 1 [.int .i64 x] rfl rfl ?c1 ?c2 ?c3 ?c4 ?c5 ?_; (case c1 => exact cell_new _ _ (by simp) _ _); (case c2 => exact one_mem rfl); (case c3 => (unfold maxLen; omega)); (case c4 => omega); (case c5 => (simp; omega)); intro v' w1 hown1 hg1 _hx hat1; obtain ⟨A1, c1, rfl⟩ := own_shape hown1; have HO1 := Lib.hid hown1; have HG1 := Lib.hid hg1; clear hown1 hg1 hat1 _hx)
        go_roundw
        case rel => exact ⟨k + 1, by omega, by go_num, by rw [HX.out]; have h := HO1.out; simpa [numV] using h, (HB.out.alloc HB.out.size _).grown HG1.out (by simp; omega) (fun g hg => by have := HO.out.lt g hg; exact this.1)⟩
        case measure => simp [intOf]; omega
      · have HX : Hid (ownL args (k + 1) = ownL args k ++ [0]) := Lib.hid (by rw [ownL_next, List.getD_eq_getElem?_getD, List.getElem?_eq_none (by omega)]; rfl)
        go_wp2_with (at_builtin; refine wpList_append_own_at _ rfl _ _ 26 rfl W.heap.size 2 i0 (.int .i64 0) 1 8 Tryd.underlying26 hi hz0 hz1 hz2 rfl (by decide) _ _ _ rfl (own_fr HO.out (M := fun _ => False) ((Fr.refl _ wr).alloc _) (fun _ _ => not_false)) ⟨wr.heap.size, 0, none⟩ 1 1 [.int .i64 0] rfl rfl ?c1 ?c2 ?c3 ?c4 ?c5 ?_; (case c1 => exact cell_new _ _ (by simp) _ _); (case c2 => exact one_mem rfl); (case c3 => (unfold maxLen; omega)); (case c4 => omega); (case c5 => (simp; omega)); intro v' w1 hown1 hg1 _hx hat1; obtain ⟨A1, c1, rfl⟩ := own_shape hown1; have HO1 := Lib.hid hown1; have HG1 := Lib.hid hg1; clear hown1 hg1 hat1 _hx)
        go_roundw
        case rel => exact ⟨k + 1, by omega, by go_num, by rw [HX.out]; have h := HO1.out; simpa [numV] using h, (HB.out.alloc HB.out.size _).grown HG1.out (by simp; omega) (fun g hg => by have := HO.out.lt g hg; exact this.1)⟩
        case measure => simp [intOf]; omega
    · obtain rfl : k = n := by omega
      have hend : U.params ≤ k ∨ ((k : Int) < U.params ∧ k = 20) := by have := HNP.out; unfold ownN at this; omega
      rcases hend with h1 | ⟨h1, h2⟩
      · go_wp2
        go_ret
        exact ⟨_, rfl, own_le H0.out.size HO.out, H0.out.trans (HB.out.mono H0.out.size)⟩
      · have h3 : ¬ (k : Int) < 20 := by omega
        have H2 := Lib.hid h2
        clear h2
        go_wp2
        go_ret
        exact ⟨_, rfl, own_le H0.out.size HO.out, H0.out.trans (HB.out.mono H0.out.size)⟩
end Go.Proofs.YtfkjkdoloamakaaDoor

/- Cut, of the specification: a unit's beginning; the pure part. -/
namespace Go.Proofs.YtfkjkdoloamakaaDoor
open Go.RowKit
set_option linter.unusedVariables false
set_option linter.unusedSimpArgs false
variable {w : World} {F : Nat → Prop} {U : UnS} {Av Ab : Option Addr} {cv cb : Nat}

/-- a block of which at most so many operations are taken -/
def cutOne (b : BlkS) (n : Int) : BlkS := { b with ops := b.ops.take n.toNat }
def cutB : List BlkS → Int → List BlkS
  | [], _ => []
  | b :: r, n => cutOne b n :: cutB r (n - (cutOne b n).ops.length)
def leftB : List BlkS → Int → Int
  | [], n => n
  | b :: r, n => leftB r (n - (cutOne b n).ops.length)
def cutU (U : UnS) (nb n : Int) : UnS := { U with sizes := U.sizes.take 17, blocks := cutB (U.blocks.take nb.toNat) n }
theorem cutB_length : ∀ (l : List BlkS) (n : Int), (cutB l n).length = l.length
  | [], _ => rfl
  | b :: r, n => by simp [cutB, cutB_length r]
theorem cutB_snoc : ∀ (l : List BlkS) (n : Int) (b : BlkS), cutB (l ++ [b]) n = cutB l n ++ [cutOne b (leftB l n)]
  | [], _, _ => rfl
  | c :: r, n, b => by simp only [List.cons_append, cutB, leftB, cutB_snoc r]
theorem leftB_snoc : ∀ (l : List BlkS) (n : Int) (b : BlkS), leftB (l ++ [b]) n = leftB l n - (cutOne b (leftB l n)).ops.length
  | [], _, _ => rfl
  | c :: r, n, b => by simp only [List.cons_append, leftB, leftB_snoc r]
theorem cutOne_len (b : BlkS) (n : Int) : (cutOne b n).ops.length = min n.toNat b.ops.length := by simp [cutOne]
theorem leftB_range : ∀ (l : List BlkS) (n : Int), 0 ≤ n → 0 ≤ leftB l n ∧ leftB l n ≤ n
  | [], n, h => ⟨h, Int.le_refl _⟩
  | b :: r, n, h => by
    have h1 := cutOne_len b n
    have := leftB_range r (n - (cutOne b n).ops.length) (by omega)
    simp only [leftB]
    omega
theorem blsC_snoc : ∀ (vs : List Value) (bs : List BlkS) (v : Value) (b : BlkS), vs.length = bs.length → blsC (vs ++ [v]) (bs ++ [b]) = blsC vs bs ++ (v :: edC b.ed ++ [.int .i64 b.ct])
  | [], [], v, b, _ => by simp [blsC]
  | [], _ :: _, _, _, h => by simp at h
  | _ :: _, [], _, _, h => by simp at h
  | x :: vs, c :: bs, v, b, h => by
    simp only [List.cons_append, blsC, blsC_snoc vs bs v b (by simpa using h), List.append_assoc]
theorem opsC_take : ∀ (l : List OpI) (n : Nat), opsC (l.take n) = (opsC l).take (n * 7)
  | [], n => by simp [opsC]
  | o :: r, 0 => by simp [opsC]
  | o :: r, n + 1 => by
    rw [show (n + 1) * 7 = 7 + n * 7 by omega]
    simp only [List.take_succ_cons, opsC, opC, opsC_take r n, List.cons_append, List.nil_append]
    rw [show 7 + n * 7 = (n * 7) + 1 + 1 + 1 + 1 + 1 + 1 + 1 by omega]
    simp only [List.take_succ_cons]
/-- what is read of a row of blocks at one of them -/
theorem blk_at {vs : List Value} {bs : List BlkS} {A : Option Addr} {c : Nat} (hl : vs.length = bs.length) (hR : Row F w (.slice A bs.length c) bs.length 6 (blsC vs bs)) {k : Nat} (hk : k < bs.length) :
    ∃ g o, A = some ⟨g, o, none⟩ ∧ F g ∧ w.cell? ⟨g, o + k * 6, none⟩ = some (vs.getD k .nilFunc) ∧ w.cell? ⟨g, o + k * 6 + 1, none⟩ = some (.int .i64 (bs.getD k dBl).ed.k) ∧ w.cell? ⟨g, o + k * 6 + 2, none⟩ = some (.int .i64 (bs.getD k dBl).ed.a) ∧ w.cell? ⟨g, o + k * 6 + 3, none⟩ = some (.int .i64 (bs.getD k dBl).ed.t) ∧ w.cell? ⟨g, o + k * 6 + 4, none⟩ = some (.int .i64 (bs.getD k dBl).ed.l) ∧ w.cell? ⟨g, o + k * 6 + 5, none⟩ = some (.int .i64 (bs.getD k dBl).ct) := by
  obtain ⟨_, A', c', e, _, _, hh⟩ := hR
  injection e with e1 _ e2
  subst e1 e2
  obtain ⟨g, o, eA, hF, _, hc⟩ := hh (by omega)
  have at_ : ∀ j, j < 6 → ∀ u, (vs.getD k .nilFunc :: edC (bs.getD k dBl).ed ++ [.int .i64 (bs.getD k dBl).ct])[j]? = some u → w.cell? ⟨g, o + k * 6 + j, none⟩ = some u := fun j hj u hu => by
    have := hc (k * 6 + j) u ((blsC_at vs bs hl k hk j hj).trans hu)
    rw [← Nat.add_assoc] at this
    exact this
  exact ⟨g, o, eA, hF, at_ 0 (by omega) _ rfl, at_ 1 (by omega) _ rfl, at_ 2 (by omega) _ rfl, at_ 3 (by omega) _ rfl, at_ 4 (by omega) _ rfl, at_ 5 (by omega) _ rfl⟩
/-- Cut's loop: the blocks that have been copied -/
structure CutS (w wr : World) (U : UnS) (bs : List BlkS) (vsz vb : Value) (vs : List Value) : Prop where
  out : Blk wr (w.heap.size + 2) 25 #[vsz, .int .i64 U.params, .int .i64 U.regs, .int .i64 U.code, .int .i64 U.spill, vb]
  sz : wr.ownsRow (w.heap.size + 3) 3 1 vsz (U.sizes.take 17).length (numV (U.sizes.take 17))
  own : wr.ownsRow (w.heap.size + 3) 73 6 vb bs.length (blsC vs bs)
  len : vs.length = bs.length
  ops : ∀ i (h : i < bs.length), wr.ownsRow (w.heap.size + 3) 76 7 (vs.getD i .nilFunc) (bs[i]).ops.length (opsC (bs[i]).ops)
theorem CutS.un {wr : World} {nb n : Int} {vsz vb : Value} {vs : List Value} (h : CutS w wr U (cutB (U.blocks.take nb.toNat) n) vsz vb vs) :
    ∃ A c A2 c2, vsz = .slice A (cutU U nb n).sizes.length c ∧ vb = .slice A2 (cutU U nb n).blocks.length c2 ∧ UnIn (fun g => w.heap.size + 3 ≤ g ∧ g < wr.heap.size) wr (cutU U nb n) A c A2 c2 := by
  obtain ⟨A, c, e1⟩ := own_shape h.sz
  obtain ⟨A2, c2, e2⟩ := own_shape h.own
  have all : ∀ {e : TypeId} {size n : Nat} {v : Value} {xs : List Value}, 0 < size → wr.ownsRow (w.heap.size + 3) e size v n xs → Row (fun g => w.heap.size + 3 ≤ g ∧ g < wr.heap.size) wr v n size xs := fun hp hr =>
    (Row.of_own (N := fun g => w.heap.size + 3 ≤ g) hr (fun b hb => hb) hp).mono fun g hg hlt => ⟨hg, hlt⟩
  refine ⟨A, c, A2, c2, e1, e2, ?_, ?_, fun g hg => hg.2⟩
  · have := all (by decide) h.sz
    rw [e1] at this
    exact this
  · refine ⟨vs, h.len, ?_, fun i hi => all (by decide) (h.ops i hi)⟩
    have := all (by decide) h.own
    rw [e2] at this
    exact this

theorem own_below {wr w1 : World} {base : Nat} {e : TypeId} {size n : Nat} {v : Value} {xs : List Value} (h : wr.ownsRow base e size v n xs) (hb : Below wr.heap.size wr w1) : w1.ownsRow base e size v n xs :=
  own_fr h (M := fun _ => False) (Fr.of_below hb) fun _ _ => not_false
theorem own_two {w1 w2 : World} {base base' : Nat} {e e' : TypeId} {size size' n n' : Nat} {v vb : Value} {xs xs' : List Value} (h : w1.ownsRow base e size v n xs) (hb : w1.ownsRow base' e' size' vb n' xs') (hne : e ≠ e') (hg : w1.grownBy w2 vb.ownBlock) : w2.ownsRow base e size v n xs :=
  own_fr h (M := fun i => vb.ownBlock = some i) (Fr.of_grown hg fun _ hk => hk) fun k hk e => own_own_ne h hb hne k hk e
/-- one more block is copied -/
theorem CutS.next {wr w1 w2 : World} {bs : List BlkS} {vsz vb v v' : Value} {vs : List Value} {b : BlkS} (h : CutS w wr U bs vsz vb vs) (hf1 : Below wr.heap.size wr w1)
    (ho : w1.ownsRow (w.heap.size + 3) 76 7 v b.ops.length (opsC b.ops)) (hg : w1.grownBy w2 vb.ownBlock)
    (own2 : w2.ownsRow (w.heap.size + 3) 73 6 v' (bs.length + 1) (blsC vs bs ++ (v :: edC b.ed ++ [.int .i64 b.ct]))) :
    CutS w (w2.setCell ⟨w.heap.size + 2, 5, none⟩ v') U (bs ++ [b]) vsz v' (vs ++ [v]) := by
  have o1 := own_below h.own hf1
  have lt2 : (⟨w.heap.size + 2, 5, none⟩ : Addr).block < w.heap.size + 3 := Nat.lt_succ_self _
  have hb1 : Blk w1 (w.heap.size + 2) 25 #[vsz, .int .i64 U.params, .int .i64 U.regs, .int .i64 U.code, .int .i64 U.spill, vb] := h.out.fr (M := fun _ => False) (Fr.of_below hf1) not_false
  have hb2 := hb1.fr (Fr.of_grown (M := fun i => vb.ownBlock = some i) hg fun _ hk => hk) (own_blk_ne o1 hb1 (by decide))
  refine ⟨hb2.set_ 5 v', own_setb lt2 _ (own_two (own_below h.sz hf1) o1 (by decide) hg), ?_, by simp [h.len], fun i hi => ?_⟩
  · rw [List.length_append, List.length_singleton, blsC_snoc _ _ _ _ h.len]
    exact own_setb lt2 _ own2
  · by_cases hil : i < bs.length
    · have e1 : (vs ++ [v]).getD i .nilFunc = vs.getD i .nilFunc := by
        rw [List.getD_eq_getElem?_getD, List.getD_eq_getElem?_getD, List.getElem?_append_left (by rw [h.len]; exact hil)]
      rw [e1, List.getElem_append_left hil]
      exact own_setb lt2 _ (own_two (own_below (h.ops i hil) hf1) o1 (by decide) hg)
    · have hi' : i = bs.length := by simp at hi; omega
      subst hi'
      have e1 : (vs ++ [v]).getD bs.length .nilFunc = v := by
        rw [List.getD_eq_getElem?_getD, List.getElem?_append_right (by rw [h.len]; exact Nat.le_refl _), h.len]; simp
      rw [e1, List.getElem_append_right (Nat.le_refl _)]
      simp only [Nat.sub_self, List.getElem_cons_zero]
      exact own_setb lt2 _ (own_two ho o1 (by decide) hg)
theorem cells_new (W : World) (n : Nat) (hn : n = W.heap.size) (xs : List Value) (t : TypeId) : ∀ j u, xs[j]? = some u → (W.alloc (.cells xs.toArray t)).cell? ((⟨n, 0, none⟩ : Addr).add j) = some u := by
  intro j u hu
  subst hn
  rw [Addr.add_lit, Nat.zero_add, (Blk.new W t xs.toArray).cell, List.getElem?_toArray]
  exact hu
theorem UnIn.mono {F' : Nat → Prop} (h : UnIn F w U Av cv Ab cb) (hn : ∀ g, F g → g < w.heap.size → F' g) (hF : ∀ g, F' g → g < w.heap.size) : UnIn F' w U Av cv Ab cb := ⟨h.hs.mono hn, h.hr.mono hn, hF⟩
end Go.Proofs.YtfkjkdoloamakaaDoor
