/- What begin, done, Start, Run, Profile, Way of package run leave, where Check's answer is known. -/
import Derived.Test.YtfkjkdoloamakaaDoorQg
import Derived.Test.YtfkjkdoloamakaaDoorNb
namespace Go.Proofs.YtfkjkdoloamakaaDoor
open Go.RowKit
set_option linter.unusedVariables false
set_option linter.unusedSimpArgs false
variable {w : World} {U : UnS} {Av Ab : Option Addr} {cv cb : Nat} {F F2 : Nat → Prop}

/-- a unit in memory that is handed in -/
structure UnIn (F : Nat → Prop) (w : World) (U : UnS) (Av : Option Addr) (cv : Nat) (Ab : Option Addr) (cb : Nat) : Prop where
  hs : Row F w (.slice Av U.sizes.length cv) U.sizes.length 1 (numV U.sizes)
  hr : RdBlocks F w (.slice Ab U.blocks.length cb) U.blocks
  hF : ∀ g, F g → g < w.heap.size
theorem UnIn.fr {M : Nat → Prop} {w' : World} (h : UnIn F w U Av cv Ab cb) (hf : Fr M w w') (hn : ∀ g, F g → ¬ M g) : UnIn F w' U Av cv Ab cb :=
  ⟨h.hs.fr hf hn, h.hr.fr hf hn, fun g hg => Nat.lt_of_lt_of_le (h.hF g hg) hf.size⟩
theorem UnIn.below {w' : World} (h : UnIn F w U Av cv Ab cb) (hb : Below w.heap.size w w') : UnIn F w' U Av cv Ab cb := h.fr (M := fun _ => False) (Fr.of_below hb) fun _ _ => not_false
theorem UnIn.all (h : UnIn F w U Av cv Ab cb) : UnIn (fun g => g < w.heap.size) w U Av cv Ab cb := ⟨h.hs.mono fun _ _ h => h, h.hr.mono fun _ _ h => h, fun _ h => h⟩
/-- what Check says of it, in every later world -/
def CkSays (w : World) (U : UnS) (Av : Option Addr) (cv : Nat) (Ab : Option Addr) (cb : Nat) (e : Int) : Prop :=
  ∀ W, Below w.heap.size w W → Calls Tryd.prog 18 #[unV U Av cv Ab cb] W fun x w' => x = .returned (.int .i64 e) ∧ Below W.heap.size W w'
theorem CkSays.below {w' : World} {e : Int} (h : CkSays w U Av cv Ab cb e) (hb : Below w.heap.size w w') : CkSays w' U Av cv Ab cb e := fun W hW => h W (hb.trans (hW.mono hb.size))
/-- the error of a run -/
def errOf (e : Int) (U : UnS) (n : Nat) (steps : Int) : Int := if e ≠ 0 then e else if (n : Int) = U.params ∧ 0 ≤ steps ∧ steps ≤ 4194304 then 0 else 2
def unC (U : UnS) (Av : Option Addr) (cv : Nat) (Ab : Option Addr) (cb : Nat) : Array Value := #[.slice Av U.sizes.length cv, .int .i64 U.params, .int .i64 U.regs, .int .i64 U.code, .int .i64 U.spill, .slice Ab U.blocks.length cb]

set_option maxRecDepth 100000 in
set_option maxHeartbeats 1000000 in
theorem begin_bad {e : Int} (hc : CkSays w U Av cv Ab cb e) (args : List Int) (Aa : Option Addr) (ca : Nat) (hl : args.length ≤ 4294967296) (steps : Int) (hE : errOf e U args.length steps ≠ 0) :
    Calls Tryd.prog 50 #[unV U Av cv Ab cb, .slice Aa args.length ca, .int .i64 steps] w fun x w' => x = .returned (.tuple #[.pointer none, .int .i64 (errOf e U args.length steps)]) ∧ Below w.heap.size w w' := by
  obtain ⟨W, hW⟩ : ∃ W, W = w.alloc (.cells (unC U Av cv Ab cb) 25) := ⟨_, rfl⟩
  have hb0 : Below w.heap.size w W := by rw [hW]; exact (Below.refl _ _).alloc (Nat.le_refl _) _
  have q1 : W.cell? ⟨w.heap.size, 1, none⟩ = some (.int .i64 U.params) := by rw [hW]; exact (blk_new w rfl _ _).cell 1
  have hw1 : w.heap.size < W.heap.size := by rw [hW]; simp
  have HW := Lib.hid hW
  have HC := Lib.hid (hc W hb0)
  have HB := Lib.hid hb0
  have HEE := Lib.hid hE
  clear hW hb0 hc
  unfold unC unV at *
  by_cases he : e = 0
  · subst he
    by_cases h1 : (args.length : Int) = U.params
    · have hb1 : ((args.length : Int) != U.params) = false := by simpa using h1
      have hx : ¬ (0 ≤ steps ∧ steps ≤ 4194304) := fun h => HEE.out (by simp [errOf, h1, h])
      have hE' : errOf 0 U args.length steps = 2 := by simp [errOf, h1]; omega
      rw [hE']
      clear h1 hE hE'
      by_cases hs : steps < 0
      · clear hx
        go_enter Tryd.func50, Tryd.ntmps50
        go_wp2_with (go_at_call 18; rw [← HW.out]; refine HC.out.mono ?_; rintro x w2 ⟨rfl, hb⟩; have q2 := (hb.cell (p := ⟨w.heap.size, 1, none⟩) hw1).trans q1; have HB2 := Lib.hid hb; clear hb)
        go_ret2
        exact ⟨rfl, HB.out.trans (HB2.out.mono HB.out.size)⟩
      · have hs2 : 4194304 < steps := by omega
        clear hx
        go_enter Tryd.func50, Tryd.ntmps50
        go_wp2_with (go_at_call 18; rw [← HW.out]; refine HC.out.mono ?_; rintro x w2 ⟨rfl, hb⟩; have q2 := (hb.cell (p := ⟨w.heap.size, 1, none⟩) hw1).trans q1; have HB2 := Lib.hid hb; clear hb)
        go_ret2
        exact ⟨rfl, HB.out.trans (HB2.out.mono HB.out.size)⟩
    · have hb1 : ((args.length : Int) != U.params) = true := by simpa using h1
      have hE' : errOf 0 U args.length steps = 2 := by simp [errOf, h1]
      rw [hE']
      clear h1 hE hE'
      go_enter Tryd.func50, Tryd.ntmps50
      go_wp2_with (go_at_call 18; rw [← HW.out]; refine HC.out.mono ?_; rintro x w2 ⟨rfl, hb⟩; have q2 := (hb.cell (p := ⟨w.heap.size, 1, none⟩) hw1).trans q1; have HB2 := Lib.hid hb; clear hb)
      go_ret2
      exact ⟨rfl, HB.out.trans (HB2.out.mono HB.out.size)⟩
  · have hE' : errOf e U args.length steps = e := by simp [errOf, he]
    rw [hE']
    have hb1 : (e != 0) = true := by simpa using he
    clear he hE hE'
    go_enter Tryd.func50, Tryd.ntmps50
    go_wp2_with (go_at_call 18; rw [← HW.out]; refine HC.out.mono ?_; rintro x w2 ⟨rfl, hb⟩; have HB2 := Lib.hid hb; clear hb)
    go_ret2
    exact ⟨rfl, HB.out.trans (HB2.out.mono HB.out.size)⟩
set_option maxRecDepth 100000 in
set_option maxHeartbeats 1000000 in
theorem begin_ok (hc : CkSays w U Av cv Ab cb 0) (G : UnGood U) (hu : UnIn F w U Av cv Ab cb) (args : List Int) (Aa : Option Addr) (ca : Nat) (hA : Row F2 w (.slice Aa args.length ca) args.length 1 (numV args)) (h1 : (args.length : Int) = U.params) (steps : Int) (h0 : 0 ≤ steps) (h2 : steps ≤ 4194304) :
    Calls Tryd.prog 50 #[unV U Av cv Ab cb, .slice Aa args.length ca, .int .i64 steps] w fun x w' => ∃ F' p, x = .returned (.tuple #[.pointer (some ⟨p, 0, none⟩), .int .i64 0]) ∧ EngX layP F' w (fun _ => False) w' p U (St.init U args) := by
  obtain ⟨W, hW⟩ : ∃ W, W = w.alloc (.cells (unC U Av cv Ab cb) 25) := ⟨_, rfl⟩
  have hb0 : Below w.heap.size w W := by rw [hW]; exact (Below.refl _ _).alloc (Nat.le_refl _) _
  have hw1 : w.heap.size < W.heap.size := by rw [hW]; simp
  have hq : Blk W w.heap.size 25 (unC U Av cv Ab cb) := by rw [hW]; exact blk_new w rfl _ _
  obtain ⟨p0, p1, p2⟩ := G.par
  have HW := Lib.hid hW
  have HC := Lib.hid (hc W hb0)
  have HB := Lib.hid hb0
  have HQ := Lib.hid hq
  have HU := Lib.hid hu.all
  have HA := Lib.hid (show Row (fun g => g < w.heap.size) w (.slice Aa args.length ca) args.length 1 (numV args) from hA.mono fun _ _ h => h)
  have HG := Lib.hid G
  have hb1 : ((args.length : Int) != U.params) = false := by simpa using h1
  have hal : (args.length : Int) ≤ U.regs := by omega
  have ha8 : args.length ≤ 8 := by omega
  clear hW hb0 hc hq hu hA G h1
  unfold unC unV at *
  go_enter Tryd.func50, Tryd.ntmps50
  go_wp2_with (first
    | (go_at_call 18; rw [← HW.out]; refine HC.out.mono ?_; rintro x w2 ⟨rfl, hb⟩; have hq2 := HQ.out.fr (M := fun _ => False) (Fr.of_below hb) not_false; have q0 : w2.cell? ⟨w.heap.size, 0, none⟩ = some (.slice Av U.sizes.length cv) := (hq2.cell 0).trans rfl; have q1 : w2.cell? ⟨w.heap.size, 1, none⟩ = some (.int .i64 U.params) := (hq2.cell 1).trans rfl; have q2 : w2.cell? ⟨w.heap.size, 2, none⟩ = some (.int .i64 U.regs) := (hq2.cell 2).trans rfl; have q3 : w2.cell? ⟨w.heap.size, 3, none⟩ = some (.int .i64 U.code) := (hq2.cell 3).trans rfl; have q4 : w2.cell? ⟨w.heap.size, 4, none⟩ = some (.int .i64 U.spill) := (hq2.cell 4).trans rfl; have q5 : w2.cell? ⟨w.heap.size, 5, none⟩ = some (.slice Ab U.blocks.length cb) := (hq2.cell 5).trans rfl; have HB2 := Lib.hid (HB.out.trans (hb.mono HB.out.size)); clear hb hq2)
    | (go_at_call 76; refine (start_any (HU.out.below HB2.out).hs (HU.out.below HB2.out).hr (HU.out.below HB2.out).hF HG.out args Aa ca ?ra hal ha8).mono ?_; (case ra => exact HA.out.fr (M := fun _ => False) (Fr.of_below HB2.out) fun _ _ => not_false); rintro x w3 ⟨F', p, rfl, E⟩))
  go_ret2
  obtain ⟨L, Q⟩ := E
  exact ⟨F', p, rfl, L, Q.e, (Fr.of_below HB2.out).then_ Q.f, fun b hb => .inr ((Q.m b hb).elim (fun h => h.elim) fun h => Nat.le_trans HB2.out.size h)⟩

theorem EngX.lift {w1 w' : World} {p : Nat} {s : St} {F' : Nat → Prop} (E : EngX layP F' w1 (fun _ => False) w' p U s) (hb : Below w.heap.size w w1) : EngX layP F' w (fun _ => False) w' p U s := by
  obtain ⟨L, Q⟩ := E
  exact ⟨L, Q.e, (Fr.of_below hb).then_ Q.f, fun b hb2 => .inr ((Q.m b hb2).elim (fun h => h.elim) fun h => Nat.le_trans hb.size h)⟩
set_option maxRecDepth 100000 in
theorem start_ok (hc : CkSays w U Av cv Ab cb 0) (G : UnGood U) (hu : UnIn F w U Av cv Ab cb) (args : List Int) (Aa : Option Addr) (ca : Nat) (hA : Row F2 w (.slice Aa args.length ca) args.length 1 (numV args)) (h1 : (args.length : Int) = U.params) :
    Calls Tryd.prog 21 #[unV U Av cv Ab cb, .slice Aa args.length ca] w fun x w' => ∃ F' p, x = .returned (.tuple #[.pointer (some ⟨p, 0, none⟩), .int .i64 0]) ∧ EngX layP F' w (fun _ => False) w' p U (St.init U args) := by
  have hb0 : Below w.heap.size w (w.alloc (.cells (unC U Av cv Ab cb) 25)) := (Below.refl _ _).alloc (Nat.le_refl _) _
  have HB := Lib.hid (hc.below hb0)
  have HU := Lib.hid (hu.below hb0)
  have HA := Lib.hid (hA.fr (M := fun _ => False) (Fr.of_below hb0) fun _ _ => not_false)
  have HG := Lib.hid G
  have H1 := Lib.hid h1
  have H0 := Lib.hid hb0
  clear hc hu hA G h1 hb0
  unfold unC unV at *
  go_enter Tryd.func21, Tryd.ntmps21
  go_wp2_with (go_at_call 50; refine (begin_ok HB.out HG.out HU.out args Aa ca HA.out H1.out 0 (Int.le_refl _) (by decide)).mono ?_; rintro x w3 ⟨F', p, rfl, E⟩)
  go_ret2
  exact ⟨F', p, rfl, E.lift H0.out⟩
theorem start_bad {e : Int} (hc : CkSays w U Av cv Ab cb e) (args : List Int) (Aa : Option Addr) (ca : Nat) (hl : args.length ≤ 4294967296) (hE : errOf e U args.length 0 ≠ 0) :
    Calls Tryd.prog 21 #[unV U Av cv Ab cb, .slice Aa args.length ca] w fun x w' => x = .returned (.tuple #[.pointer none, .int .i64 (errOf e U args.length 0)]) ∧ Below w.heap.size w w' := by
  have hb0 : Below w.heap.size w (w.alloc (.cells (unC U Av cv Ab cb) 25)) := (Below.refl _ _).alloc (Nat.le_refl _) _
  have HB := Lib.hid (hc.below hb0)
  have H0 := Lib.hid hb0
  have HE := Lib.hid hE
  clear hc hb0 hE
  unfold unC unV at *
  go_enter Tryd.func21, Tryd.ntmps21
  go_wp2_with (go_at_call 50; refine (begin_bad HB.out args Aa ca hl 0 HE.out).mono ?_; rintro x w3 ⟨rfl, hb⟩)
  go_ret2
  exact ⟨rfl, H0.out.trans (hb.mono H0.out.size)⟩
theorem done_bad {e : Int} (hc : CkSays w U Av cv Ab cb e) (args : List Int) (Aa : Option Addr) (ca : Nat) (hl : args.length ≤ 4294967296) (steps : Int) (hE : errOf e U args.length steps ≠ 0) :
    Calls Tryd.prog 39 #[unV U Av cv Ab cb, .slice Aa args.length ca, .int .i64 steps] w fun x w' => x = .returned (.tuple #[.pointer none, .int .i64 (errOf e U args.length steps)]) ∧ Below w.heap.size w w' := by
  have hb0 : Below w.heap.size w (w.alloc (.cells (unC U Av cv Ab cb) 25)) := (Below.refl _ _).alloc (Nat.le_refl _) _
  have HB := Lib.hid (hc.below hb0)
  have H0 := Lib.hid hb0
  have HE := Lib.hid hE
  obtain ⟨x0, hx0⟩ : ∃ x0, x0 = errOf e U args.length steps := ⟨_, rfl⟩
  have hn : (x0 == 0) = false := by rw [hx0]; simpa using hE
  have HX : Hid (errOf e U args.length steps = x0) := Lib.hid hx0.symm
  rw [← hx0]
  clear hc hb0 hE hx0
  unfold unC unV at *
  go_enter Tryd.func39, Tryd.ntmps39
  go_wp2_with (go_at_call 50; refine (begin_bad HB.out args Aa ca hl steps HE.out).mono ?_; rintro x w3 ⟨rfl, hb⟩; rw [HX.out]; have HB3 := Lib.hid hb; clear hb)
  go_ret2
  exact ⟨rfl, H0.out.trans (HB3.out.mono H0.out.size)⟩
set_option maxRecDepth 100000 in
theorem done_ok (hc : CkSays w U Av cv Ab cb 0) (G : UnGood U) (V : Env w) (hu : UnIn F w U Av cv Ab cb) (args : List Int) (Aa : Option Addr) (ca : Nat) (hA : Row F2 w (.slice Aa args.length ca) args.length 1 (numV args)) (h1 : (args.length : Int) = U.params) (steps : Int) (h0 : 0 ≤ steps) (h2 : steps ≤ 4194304) :
    Calls Tryd.prog 39 #[unV U Av cv Ab cb, .slice Aa args.length ca, .int .i64 steps] w fun x w' => ∃ F' p, x = .returned (.tuple #[.pointer (some ⟨p, 0, none⟩), .int .i64 0]) ∧ EngX layP F' w (fun _ => False) w' p U (St.run U steps.toNat (St.init U args)) := by
  have hb0 : Below w.heap.size w (w.alloc (.cells (unC U Av cv Ab cb) 25)) := (Below.refl _ _).alloc (Nat.le_refl _) _
  have S0 := StGood.init G args (by obtain ⟨_, _, p2⟩ := G.par; omega)
  have HB := Lib.hid (hc.below hb0)
  have HU := Lib.hid (hu.below hb0)
  have HA := Lib.hid (hA.fr (M := fun _ => False) (Fr.of_below hb0) fun _ _ => not_false)
  have HG := Lib.hid G
  have H1 := Lib.hid h1
  have H0 := Lib.hid hb0
  have HV := Lib.hid (V.below hb0)
  have HS := Lib.hid S0
  clear hc hu hA G h1 hb0 V S0
  unfold unC unV at *
  go_enter Tryd.func39, Tryd.ntmps39
  go_wp2_with (first
    | (go_at_call 50; refine (begin_ok HB.out HG.out HU.out args Aa ca HA.out H1.out steps h0 h2).mono ?_; rintro x w3 ⟨F', p, rfl, E⟩)
    | (go_at_call 22; refine (erun_any HS.out HG.out E HV.out not_false steps h0 h2 ?zs).mono ?_; (case zs => (show (0 : Int) ≤ _; omega)); rintro x w4 ⟨v, rfl, hv, E4⟩))
  go_ret2
  obtain ⟨L, Q, _⟩ := E4
  exact ⟨F', p, rfl, EngX.lift ⟨L, Q⟩ H0.out⟩
end Go.Proofs.YtfkjkdoloamakaaDoor
