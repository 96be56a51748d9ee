/- What Profile and Way of package run answer, where Check's answer is known. -/
import Derived.Test.YtfkjkdoloamakaaDoorMg
namespace Go.Proofs.YtfkjkdoloamakaaDoor
open Go.RowKit
set_option linter.unusedVariables false
set_option linter.unusedSimpArgs false
variable {w : World} {U : UnS} {Av Ab : Option Addr} {cv cb : Nat} {F F2 : Nat → Prop}

set_option maxRecDepth 100000 in
theorem prof_bad {e : Int} (hc : CkSays w U Av cv Ab cb e) (args : List Int) (Aa : Option Addr) (ca : Nat) (hl : args.length ≤ 4294967296) (steps : Int) (hE : errOf e U args.length steps ≠ 0) :
    Calls Tryd.prog 24 #[unV U Av cv Ab cb, .slice Aa args.length ca, .int .i64 steps] w fun x w' => x = .returned (.tuple #[.slice none 0 0, .int .i64 (errOf e U args.length steps)]) ∧ Below w.heap.size w w' := by
  have hb0 : Below w.heap.size w (w.alloc (.cells (unC U Av cv Ab cb) 25)) := (Below.refl _ _).alloc (Nat.le_refl _) _
  have HB := Lib.hid (hc.below hb0)
  have H0 := Lib.hid hb0
  have HE := Lib.hid hE
  obtain ⟨x0, hx0⟩ : ∃ x0, x0 = errOf e U args.length steps := ⟨_, rfl⟩
  have hn : (x0 != 0) = true := by rw [hx0]; simpa using hE
  have HX : Hid (errOf e U args.length steps = x0) := Lib.hid hx0.symm
  rw [← hx0]
  clear hc hb0 hE hx0
  unfold unC unV at *
  go_enter Tryd.func24, Tryd.ntmps24
  go_wp2_with (go_at_call 39; refine (done_bad HB.out args Aa ca hl steps HE.out).mono ?_; rintro x w3 ⟨rfl, hb⟩; rw [HX.out]; have HB3 := Lib.hid hb; clear hb)
  go_ret2
  exact ⟨rfl, H0.out.trans (HB3.out.mono H0.out.size)⟩
set_option maxRecDepth 100000 in
theorem way_bad {e : Int} (hc : CkSays w U Av cv Ab cb e) (args : List Int) (Aa : Option Addr) (ca : Nat) (hl : args.length ≤ 4294967296) (steps : Int) (hE : errOf e U args.length steps ≠ 0) :
    Calls Tryd.prog 25 #[unV U Av cv Ab cb, .slice Aa args.length ca, .int .i64 steps] w fun x w' => x = .returned (.tuple #[.slice none 0 0, .int .i64 (errOf e U args.length steps)]) ∧ Below w.heap.size w w' := by
  have hb0 : Below w.heap.size w (w.alloc (.cells (unC U Av cv Ab cb) 25)) := (Below.refl _ _).alloc (Nat.le_refl _) _
  have HB := Lib.hid (hc.below hb0)
  have H0 := Lib.hid hb0
  have HE := Lib.hid hE
  obtain ⟨x0, hx0⟩ : ∃ x0, x0 = errOf e U args.length steps := ⟨_, rfl⟩
  have hn : (x0 != 0) = true := by rw [hx0]; simpa using hE
  have HX : Hid (errOf e U args.length steps = x0) := Lib.hid hx0.symm
  rw [← hx0]
  clear hc hb0 hE hx0
  unfold unC unV at *
  go_enter Tryd.func25, Tryd.ntmps25
  go_wp2_with (go_at_call 39; refine (done_bad HB.out args Aa ca hl steps HE.out).mono ?_; rintro x w3 ⟨rfl, hb⟩; rw [HX.out]; have HB3 := Lib.hid hb; clear hb)
  go_ret2
  exact ⟨rfl, H0.out.trans (HB3.out.mono H0.out.size)⟩
set_option maxRecDepth 100000 in
theorem prof_ok (hc : CkSays w U Av cv Ab cb 0) (G : UnGood U) (V : Env w) (hu : UnIn F w U Av cv Ab cb) (args : List Int) (Aa : Option Addr) (ca : Nat) (hA : Row F2 w (.slice Aa args.length ca) args.length 1 (numV args)) (h1 : (args.length : Int) = U.params) (steps : Int) (h0 : 0 ≤ steps) (h2 : steps ≤ 4194304) :
    Calls Tryd.prog 24 #[unV U Av cv Ab cb, .slice Aa args.length ca, .int .i64 steps] w fun x w' => ∃ g n, n = (St.run U steps.toNat (St.init U args)).seen.length ∧ x = .returned (.tuple #[.slice (some ⟨g, 0, none⟩) n n, .int .i64 0]) ∧ Blk w' g 68 (cntC (St.run U steps.toNat (St.init U args)).seen).toArray ∧ Below w.heap.size w w' := by
  have hb0 : Below w.heap.size w (w.alloc (.cells (unC U Av cv Ab cb) 25)) := (Below.refl _ _).alloc (Nat.le_refl _) _
  have HD := Lib.hid (done_ok (hc.below hb0) G (V.below hb0) (hu.below hb0) args Aa ca (hA.fr (M := fun _ => False) (Fr.of_below hb0) fun _ _ => not_false) h1 steps h0 h2)
  have H0 := Lib.hid hb0
  obtain ⟨sF, hsF⟩ : ∃ sF, sF = St.run U steps.toNat (St.init U args) := ⟨_, rfl⟩
  rw [← hsF] at HD ⊢
  clear hc hb0 hu hA V G h1 hsF
  unfold unC unV at *
  go_enter Tryd.func24, Tryd.ntmps24
  go_wp2_with (go_at_call 39; refine HD.out.mono ?_; rintro x w3 ⟨F', p, rfl, L, Q⟩; have h16 := P16 Q.e; obtain ⟨n, hn⟩ : ∃ n, n = sF.seen.length := ⟨_, rfl⟩; rw [← hn] at h16; have HQ := Lib.hid Q; have HN := Lib.hid hn; clear Q hn)
  go_ret2
  exact ⟨_, _, HN.out, rfl, HQ.out.e.seen, (EngX.lift ⟨L, HQ.out⟩ H0.out).elim fun _ q => q.f.below (fun _ h => h.elim) (Nat.le_refl _)⟩
set_option maxRecDepth 100000 in
theorem way_ok (hc : CkSays w U Av cv Ab cb 0) (G : UnGood U) (V : Env w) (hu : UnIn F w U Av cv Ab cb) (args : List Int) (Aa : Option Addr) (ca : Nat) (hA : Row F2 w (.slice Aa args.length ca) args.length 1 (numV args)) (h1 : (args.length : Int) = U.params) (steps : Int) (h0 : 0 ≤ steps) (h2 : steps ≤ 4194304) :
    Calls Tryd.prog 25 #[unV U Av cv Ab cb, .slice Aa args.length ca, .int .i64 steps] w fun x w' => ∃ v, x = .returned (.tuple #[v, .int .i64 0]) ∧ w'.ownsRow 0 3 1 v (St.run U steps.toNat (St.init U args)).ways.length (numV (St.run U steps.toNat (St.init U args)).ways) ∧ Below w.heap.size w w' := by
  have hb0 : Below w.heap.size w (w.alloc (.cells (unC U Av cv Ab cb) 25)) := (Below.refl _ _).alloc (Nat.le_refl _) _
  have HD := Lib.hid (done_ok (hc.below hb0) G (V.below hb0) (hu.below hb0) args Aa ca (hA.fr (M := fun _ => False) (Fr.of_below hb0) fun _ _ => not_false) h1 steps h0 h2)
  have H0 := Lib.hid hb0
  obtain ⟨sF, hsF⟩ : ∃ sF, sF = St.run U steps.toNat (St.init U args) := ⟨_, rfl⟩
  rw [← hsF] at HD ⊢
  clear hc hb0 hu hA V G h1 hsF
  unfold unC unV at *
  go_enter Tryd.func25, Tryd.ntmps25
  go_wp2_with (go_at_call 39; refine HD.out.mono ?_; rintro x w3 ⟨F', p, rfl, L, Q⟩; have h15 := P15 Q.e; obtain ⟨v, hv⟩ : ∃ v, v = L.vw := ⟨_, rfl⟩; rw [← hv] at h15; have HQ := Lib.hid Q; have HV := Lib.hid hv; clear Q hv)
  go_ret2
  exact ⟨_, rfl, by rw [HV.out]; exact HQ.out.e.ways, (EngX.lift ⟨L, HQ.out⟩ H0.out).elim fun _ q => q.f.below (fun _ h => h.elim) (Nat.le_refl _)⟩
end Go.Proofs.YtfkjkdoloamakaaDoor
