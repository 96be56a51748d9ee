import Derived.Test.YtfkjkdoloamakaaDoorLd
import Derived.Test.YtfkjkdoloamakaaDoorRows
import Derived.Test.YtfkjkdoloamakaaDoorMb
import Derived.ProofKit
import Derived.LaidMore
import Derived.OpenShut
import Derived.Stop.Joined
import Derived.Stop.LaidErr
import Derived.Lib.LaidTab
import Derived.ShutString
import Derived.Carry
import Derived.SizedLaws
import Derived.Deep.Slices
/- Small and Copy: a unit's beginning, and the whole of a small one, in memory of its own. -/
namespace Go.Proofs.YtfkjkdoloamakaaDoor
open Go.RowKit
set_option linter.unusedVariables false
set_option linter.unusedSimpArgs false
variable {w : World} {F : Nat → Prop} {U : UnS} {Av Ab : Option Addr} {cv cb : Nat}

def opsN : List BlkS → Nat
  | [] => 0
  | b :: r => b.ops.length + opsN r
theorem opsN_cutB : ∀ (l : List BlkS) (n : Int), 0 ≤ n → (opsN (cutB l n) : Int) ≤ n
  | [], n, h => h
  | b :: r, n, h => by
    have h1 := cutOne_len b n
    have := opsN_cutB r (n - (cutOne b n).ops.length) (by omega)
    simp only [cutB, opsN]
    omega
theorem cutB_id : ∀ (l : List BlkS) (n : Int), (opsN l : Int) ≤ n → cutB l n = l
  | [], _, _ => rfl
  | b :: r, n, h => by
    simp only [opsN] at h
    have e : cutOne b n = b := by
      show BlkS.mk (b.ops.take n.toNat) b.ed b.ct = b
      rw [List.take_of_length_le (by omega)]
    simp only [cutB, e]
    rw [cutB_id r _ (by omega)]
theorem mem_opsN : ∀ {l : List BlkS} {b : BlkS}, b ∈ l → b.ops.length ≤ opsN l
  | c :: r, b, h => by
    simp only [opsN]
    rcases List.mem_cons.1 h with rfl | h
    · omega
    · have := mem_opsN h; omega
/-- the beginning of a unit that the laws look at -/
def smallU (U : UnS) : UnS := cutU U 200 4000
theorem small_sizes (U : UnS) : (smallU U).sizes.length ≤ 17 := by show (U.sizes.take 17).length ≤ 17; simp; omega
theorem small_blocks (U : UnS) : (smallU U).blocks.length ≤ 200 := by show (cutB (U.blocks.take 200) 4000).length ≤ 200; rw [cutB_length]; simp; omega
theorem small_ops (U : UnS) : opsN (smallU U).blocks ≤ 4000 := by have := opsN_cutB (U.blocks.take 200) 4000 (by decide); show opsN (cutB (U.blocks.take 200) 4000) ≤ 4000; omega
theorem cutU_id (h1 : U.sizes.length ≤ 17) (n : Int) (h2 : (opsN U.blocks : Int) ≤ n) : cutU U U.blocks.length n = U := by
  obtain ⟨sz, p, r, c, s, bl⟩ := U
  simp only [cutU] at *
  rw [List.take_of_length_le h1, Int.toNat_natCast, List.take_of_length_le (Nat.le_refl _), cutB_id _ _ h2]

set_option maxRecDepth 100000 in
set_option maxHeartbeats 1000000 in
theorem small_any (hu : UnIn F w U Av cv Ab cb) (hz1 : U.sizes.length ≤ 17592186044416) (hz2 : U.blocks.length * 64 ≤ 140737488355328) (hz3 : ∀ b ∈ U.blocks, b.ops.length * 56 ≤ 140737488355328) :
    Calls Tryd.prog 10 #[unV U Av cv Ab cb] w fun x w' => ∃ A c A2 c2, x = .returned (unV (smallU U) A c A2 c2) ∧ UnIn (fun g => w.heap.size ≤ g ∧ g < w'.heap.size) w' (smallU U) A c A2 c2 ∧ Below w.heap.size w w' := by
  obtain ⟨W, hW⟩ : ∃ W, W = (w.alloc (.cells (unC U Av cv Ab cb) 25)).alloc (.cells #[.slice none 0 0, .int .i64 0, .int .i64 0, .int .i64 0, .int .i64 0, .slice none 0 0] 25) := ⟨_, rfl⟩
  have hb0 : Below w.heap.size w W := by rw [hW]; exact ((Below.refl _ _).alloc (Nat.le_refl _) _).alloc (by simp) _
  have b1 : Blk W (w.heap.size + 1) 25 #[.slice none 0 0, .int .i64 0, .int .i64 0, .int .i64 0, .int .i64 0, .slice none 0 0] := by rw [hW]; exact blk_new _ (by simp) _ _
  have hz : W.heap.size = w.heap.size + 2 := by rw [hW]; simp
  have HW := Lib.hid hW
  have H0 := Lib.hid hb0
  have HB1 := Lib.hid b1
  have HZ := Lib.hid hz
  have HU := Lib.hid (hu.below hb0)
  have HZ3 := Lib.hid hz3
  clear hu hW hb0 b1 hz hz3
  unfold unV unC at *
  go_enter Tryd.func10, Tryd.ntmps10
  go_wp2_with (go_at_call 38; rw [← HW.out]; refine (cut_any HU.out 200 4000 (by decide) (by decide) (by decide) hz1 hz2 HZ3.out).mono ?_; rintro x w3 ⟨A, c, A2, c2, rfl, hun, hb⟩; have n1 := HB1.out.fr (M := fun _ => False) (Fr.of_below hb) not_false; have s0 : w3.cell? ⟨w.heap.size + 1, 0, none⟩ = some (.slice none 0 0) := (n1.cell 0).trans rfl; have s1 : w3.cell? ⟨w.heap.size + 1, 1, none⟩ = some (.int .i64 0) := (n1.cell 1).trans rfl; have s2 : w3.cell? ⟨w.heap.size + 1, 2, none⟩ = some (.int .i64 0) := (n1.cell 2).trans rfl; have s3 : w3.cell? ⟨w.heap.size + 1, 3, none⟩ = some (.int .i64 0) := (n1.cell 3).trans rfl; have s4 : w3.cell? ⟨w.heap.size + 1, 4, none⟩ = some (.int .i64 0) := (n1.cell 4).trans rfl; have s5 : w3.cell? ⟨w.heap.size + 1, 5, none⟩ = some (.slice none 0 0) := (n1.cell 5).trans rfl; have t0 := n1.frozen 0; have t1 := n1.frozen 1; have t2 := n1.frozen 2; have t3 := n1.frozen 3; have t4 := n1.frozen 4; have t5 := n1.frozen 5; have HBB := Lib.hid hb; have HUN := Lib.hid hun; clear n1 hb hun; change Hid (UnIn _ w3 (smallU U) A c A2 c2) at HUN; unfold unV)
  have fin : ∀ w', Fr (fun i => i = w.heap.size + 1) w3 w' → UnIn (fun g => w.heap.size ≤ g ∧ g < w'.heap.size) w' (smallU U) A c A2 c2 ∧ Below w.heap.size w w' := fun w' hf => by
    have hz := HZ.out
    have h3 := HBB.out.size
    refine ⟨(HUN.out.fr hf (fun g hg e => by have e' : g = w.heap.size + 1 := e; omega)).mono (fun g hg hlt => ⟨by omega, hlt⟩) (fun g hg => hg.2), (H0.out.trans (HBB.out.mono H0.out.size)).trans (hf.below (fun b hb => by have e' : b = w.heap.size + 1 := hb; omega) (by omega))⟩
  refine bodyPost_ret (v := unV (smallU U) A c A2 c2) (by simp [results, Tryd.results10, go_sem, *, unV, smallU, cutU]) rfl ⟨_, _, _, _, rfl, fin _ ?_⟩
  (repeat' (first | with_reducible refine frS ?_ | with_reducible exact Fr.refl _ _))

set_option maxRecDepth 100000 in
set_option maxHeartbeats 1000000 in
theorem copy_any (hu : UnIn F w U Av cv Ab cb) (hz1 : U.sizes.length ≤ 17) (hz2 : U.blocks.length ≤ 200) (hz3 : opsN U.blocks ≤ 4000) :
    Calls Tryd.prog 13 #[unV U Av cv Ab cb] w fun x w' => ∃ A c A2 c2, x = .returned (unV U A c A2 c2) ∧ UnIn (fun g => w.heap.size ≤ g ∧ g < w'.heap.size) w' U A c A2 c2 ∧ Below w.heap.size w w' := by
  obtain ⟨W, hW⟩ : ∃ W, W = (w.alloc (.cells (unC U Av cv Ab cb) 25)).alloc (.cells #[.slice none 0 0, .int .i64 0, .int .i64 0, .int .i64 0, .int .i64 0, .slice none 0 0] 25) := ⟨_, rfl⟩
  have hb0 : Below w.heap.size w W := by rw [hW]; exact ((Below.refl _ _).alloc (Nat.le_refl _) _).alloc (by simp) _
  have b1 : Blk W (w.heap.size + 1) 25 #[.slice none 0 0, .int .i64 0, .int .i64 0, .int .i64 0, .int .i64 0, .slice none 0 0] := by rw [hW]; exact blk_new _ (by simp) _ _
  have hz : W.heap.size = w.heap.size + 2 := by rw [hW]; simp
  have he : cutU U U.blocks.length 1099511627776 = U := cutU_id hz1 _ (by omega)
  have hz4 : ∀ b ∈ U.blocks, b.ops.length * 56 ≤ 140737488355328 := fun b hb => by have := mem_opsN hb; omega
  have HW := Lib.hid hW
  have H0 := Lib.hid hb0
  have HB1 := Lib.hid b1
  have HZ := Lib.hid hz
  have HU := Lib.hid (hu.below hb0)
  have HZ3 := Lib.hid hz4
  have HE := Lib.hid he
  clear hu hW hb0 b1 hz hz3 hz4 he
  unfold unV unC at *
  go_enter Tryd.func13, Tryd.ntmps13
  go_wp2_with (go_at_call 38; rw [← HW.out]; refine (cut_any HU.out U.blocks.length 1099511627776 (by omega) (by decide) (by decide) (by omega) (by omega) HZ3.out).mono ?_; rintro x w3 ⟨A, c, A2, c2, rfl, hun, hb⟩; rw [HE.out] at hun ⊢; have n1 := HB1.out.fr (M := fun _ => False) (Fr.of_below hb) not_false; have s0 : w3.cell? ⟨w.heap.size + 1, 0, none⟩ = some (.slice none 0 0) := (n1.cell 0).trans rfl; have s1 : w3.cell? ⟨w.heap.size + 1, 1, none⟩ = some (.int .i64 0) := (n1.cell 1).trans rfl; have s2 : w3.cell? ⟨w.heap.size + 1, 2, none⟩ = some (.int .i64 0) := (n1.cell 2).trans rfl; have s3 : w3.cell? ⟨w.heap.size + 1, 3, none⟩ = some (.int .i64 0) := (n1.cell 3).trans rfl; have s4 : w3.cell? ⟨w.heap.size + 1, 4, none⟩ = some (.int .i64 0) := (n1.cell 4).trans rfl; have s5 : w3.cell? ⟨w.heap.size + 1, 5, none⟩ = some (.slice none 0 0) := (n1.cell 5).trans rfl; have t0 := n1.frozen 0; have t1 := n1.frozen 1; have t2 := n1.frozen 2; have t3 := n1.frozen 3; have t4 := n1.frozen 4; have t5 := n1.frozen 5; have HBB := Lib.hid hb; have HUN := Lib.hid hun; clear n1 hb hun; unfold unV)
  have fin : ∀ w', Fr (fun i => i = w.heap.size + 1) w3 w' → UnIn (fun g => w.heap.size ≤ g ∧ g < w'.heap.size) w' U A c A2 c2 ∧ Below w.heap.size w w' := fun w' hf => by
    have hz := HZ.out
    have h3 := HBB.out.size
    refine ⟨(HUN.out.fr hf (fun g hg e => by have e' : g = w.heap.size + 1 := e; omega)).mono (fun g hg hlt => ⟨by omega, hlt⟩) (fun g hg => hg.2), (H0.out.trans (HBB.out.mono H0.out.size)).trans (hf.below (fun b hb => by have e' : b = w.heap.size + 1 := hb; omega) (by omega))⟩
  refine bodyPost_ret (v := unV U A c A2 c2) (by simp [results, Tryd.results13, go_sem, *, unV]) rfl ⟨_, _, _, _, rfl, fin _ ?_⟩
  (repeat' (first | with_reducible refine frS ?_ | with_reducible exact Fr.refl _ _))
end Go.Proofs.YtfkjkdoloamakaaDoor

/- The kinds of a run's states; an Engine's Steps. -/
namespace Go.Proofs.YtfkjkdoloamakaaDoor
open Go.RowKit
set_option linter.unusedVariables false
set_option linter.unusedSimpArgs false
variable {w w0 : World} {F M0 : Nat → Prop} {U : UnS} {s : St} {p : Nat}

def KindR (k : Int) : Prop := k = 0 ∨ k = 1 ∨ k = 2
theorem St.enter_kind (s : St) (b : Nat) : (s.enter b).kind = s.kind := rfl
theorem St.put_kind (s : St) (r : Int) (v : Int × Int) : (s.put r v).kind = s.kind := rfl
theorem St.trap_kind (U : UnS) (s : St) (n : Int) (h : KindR s.kind) : KindR (s.trap U n).kind := by
  unfold St.trap
  split
  · exact .inr (.inr rfl)
  · exact h
theorem St.act_kind (s : St) (o : OpI) : (s.act o).1.kind = s.kind := by
  unfold St.act
  repeat' split
  all_goals rfl
theorem St.doR_kind (s : St) (o : OpI) : (s.doR o).1.kind = s.kind := by
  unfold St.doR
  repeat' split
  all_goals first | rfl | exact St.act_kind _ _
theorem St.leave_kind (U : UnS) (s : St) (x : EdS) (h : KindR s.kind) : KindR (s.leave U x).kind := by
  unfold St.leave
  repeat' split
  all_goals first | exact St.trap_kind U _ _ h | exact .inr (.inl rfl) | exact h
theorem St.step_kind (U : UnS) (s : St) (h : KindR s.kind) : KindR (s.step U).kind := by
  unfold St.step
  simp only
  split
  · exact St.leave_kind U _ _ h
  · have hd : ∀ o, KindR ((St.doR { s with steps := s.steps + 1 } o).1.kind) := fun o => by rw [St.doR_kind]; exact h
    split
    · exact St.trap_kind U _ _ (hd _)
    · split
      · exact hd _
      · exact hd _
theorem St.run_kind (U : UnS) : ∀ (n : Nat) (s : St), KindR s.kind → KindR (St.run U n s).kind
  | 0, s, h => h
  | n + 1, s, h => by
    unfold St.run
    split
    · exact St.run_kind U n _ (St.step_kind U s h)
    · exact h
theorem init_kind (U : UnS) (args : List Int) : KindR (St.init U args).kind := .inl rfl
theorem kindO_stop {k : Int} (h : KindR k) : (kindO k != 3) = decide (k ≠ 0) := by
  rcases h with rfl | rfl | rfl <;> decide

set_option maxRecDepth 100000 in
theorem esteps_any (G : UnGood U) (S : StGood U s) (E : EngX layP F w0 M0 w p U s) :
    Calls Tryd.prog 23 #[.pointer (some ⟨p, 0, none⟩)] w fun e w' => e = .returned (.int .i64 s.steps) ∧ w' = w := by
  obtain ⟨L, Q⟩ := E
  have h12 := P12 Q.e
  have HG := Lib.hid G
  have HS := Lib.hid S
  have HQ := Lib.hid Q
  clear G S Q
  go_enter Tryd.func23, Tryd.ntmps23
  go_wp2_with (go_at_call 51; refine (ok_any HG.out HS.out HQ.out.x).mono ?_; rintro e w1 ⟨rfl, rfl⟩)
  go_ret
  exact ⟨rfl, rfl⟩
end Go.Proofs.YtfkjkdoloamakaaDoor

/- RunParts, walked. -/
namespace Go.Proofs.YtfkjkdoloamakaaDoor
open Go.RowKit
set_option linter.unusedVariables false
set_option linter.unusedSimpArgs false
variable {w : World} {F F2 F3 : Nat → Prop} {U : UnS} {Av Ab : Option Addr} {cv cb : Nat}

theorem own_len {S : UnS} (h : UnFine S) (args : List Int) : ((ownL args (ownN S)).length : Int) = S.params ∧ (ownL args (ownN S)).length = ownN S := by
  have h1 := h.p1
  have h2 := h.p2
  rw [ownL_length]
  unfold ownN
  omega
theorem lens_of {S : UnS} (h1 : S.sizes.length ≤ 17) (h2 : S.blocks.length ≤ 200) (h3 : opsN S.blocks ≤ 4000) : (∀ b ∈ S.blocks, b.ops.length ≤ 4294967296) ∧ (S.sizes.length ≤ 4294967296 ∧ S.blocks.length ≤ 4294967296) :=
  ⟨fun b hb => by have := mem_opsN hb; omega, by omega, by omega⟩
theorem row_at {n : Nat} {xs : List Value} {A : Option Addr} {c : Nat} (h : Row F w (.slice A n c) n 1 xs) {k : Nat} (hk : k < n) : ∃ g o, A = some ⟨g, o, none⟩ ∧ F g ∧ ∀ u, xs[k]? = some u → w.cell? ⟨g, o + k, none⟩ = some u := by
  obtain ⟨_, A', c', e, _, _, hh⟩ := h
  injection e with e1 _ e2
  subst e1 e2
  obtain ⟨g, o, e3, hF, _, hc⟩ := hh (by omega)
  exact ⟨g, o, e3, hF, fun u hu => hc k u hu⟩

set_option maxRecDepth 100000 in
set_option maxHeartbeats 4000000 in
theorem law_parts (hu : UnIn F w U Av cv Ab cb) (V : Env w) (hz1 : U.sizes.length ≤ 17592186044416) (hz2 : U.blocks.length * 64 ≤ 140737488355328) (hz3 : ∀ b ∈ U.blocks, b.ops.length * 56 ≤ 140737488355328)
    (args : List Int) (Aa : Option Addr) (ca : Nat) (hA : Row F2 w (.slice Aa args.length ca) args.length 1 (numV args)) (hal : args.length ≤ maxLen)
    (parts : List Int) (Ap : Option Addr) (cp : Nat) (hP : Row F3 w (.slice Ap parts.length cp) parts.length 1 (parts.map (Value.int .u16))) (hp : ∀ x ∈ parts, 0 ≤ x ∧ x ≤ 65535) :
    Calls Tryd.prog 5 #[unV U Av cv Ab cb, .slice Aa args.length ca, .slice Ap parts.length cp] w fun x w' => x = .returned (.bool true) ∧ Below w.heap.size w w' := by
  obtain ⟨W0, hW0⟩ : ∃ W0, W0 = w.alloc (.cells (unC U Av cv Ab cb) 25) := ⟨_, rfl⟩
  have hb0 : Below w.heap.size w W0 := by rw [hW0]; exact (Below.refl _ _).alloc (Nat.le_refl _) _
  have hsm := small_any (hu.below hb0) hz1 hz2 hz3
  obtain ⟨S, hS⟩ : ∃ S, S = smallU U := ⟨_, rfl⟩
  have z1 := small_sizes U
  have z2 := small_blocks U
  have z3 := small_ops U
  rw [← hS] at hsm z1 z2 z3
  obtain ⟨y1, y2⟩ := lens_of z1 z2 z3
  have hV0 := V.below hb0
  have HW0 := Lib.hid hW0
  have H0 := Lib.hid hb0
  have HSM := Lib.hid hsm
  have HV := Lib.hid V
  have HA := Lib.hid (show Row (fun g => g < w.heap.size) w (.slice Aa args.length ca) args.length 1 (numV args) from hA.mono fun _ _ h => h)
  have HP := Lib.hid (show Row (fun g => g < w.heap.size) w (.slice Ap parts.length cp) parts.length 1 (parts.map (Value.int .u16)) from hP.mono fun _ _ h => h)
  have HPR := Lib.hid hp
  have HY1 := Lib.hid y1
  have HY2 := Lib.hid y2
  unfold maxLen at hal
  clear hu V hS hsm hb0 hW0 hV0 hA hP hp y1 y2
  by_cases hE : unErr S = 0
  · have hf := un_zero hE
    obtain ⟨l, hl⟩ : ∃ l, l = ownL args (ownN S) := ⟨_, rfl⟩
    have hn1 := (own_len hf args).1
    have hn2 := (own_len hf args).2
    rw [← hl] at hn1 hn2
    have HOWN : Hid (∀ (w' : World) (A : Option Addr) (c : Nat) (A2 : Option Addr) (c2 : Nat), Below w.heap.size w w' → Calls Tryd.prog 20 #[unV S A c A2 c2, .slice Aa args.length ca] w' fun x w'' => ∃ v, x = .returned v ∧ w''.ownsRow w'.heap.size 2 1 v l.length (numV l) ∧ Below w'.heap.size w' w'') := Lib.hid (fun w' A c A2 c2 hb => by
      have h := own_any (U := S) (Av := A) (cv := c) (Ab := A2) (cb := c2) args Aa ca (HA.out.fr (M := fun _ => False) (Fr.of_below hb) fun _ _ => not_false) (by unfold maxLen; exact hal)
      rw [← hl, ← hn2] at h
      exact h)
    have HN := Lib.hid hn1
    have HG := Lib.hid (fine_good hf)
    have HE := Lib.hid hE
    clear hf hl hn1 hn2 hE
    unfold unV unC at *
    go_enter Tryd.func5, Tryd.ntmps5
    go_wp2_with (first
      | (go_at_call 10; go_loud (rw [← HW0.out]; refine HSM.out.mono ?_; rintro x w1 ⟨A, c, A2, c2, rfl, hun, hb⟩; obtain ⟨W1, hW1⟩ : ∃ W1, W1 = w1.alloc (.cells #[.slice A S.sizes.length c, .int .i64 S.params, .int .i64 S.regs, .int .i64 S.code, .int .i64 S.spill, .slice A2 S.blocks.length c2] 25) := ⟨_, rfl⟩; have hb1 : Below w.heap.size w w1 := H0.out.trans (hb.mono H0.out.size); have hbW : Below w.heap.size w W1 := hW1 ▸ hb1.alloc hb1.size _; have hunW : UnIn (fun g => g < w1.heap.size) W1 S A c A2 c2 := hW1 ▸ (hun.mono (fun g hg hlt => hlt) (fun g hg => hg)).below ((Below.refl _ _).alloc (Nat.le_refl _) _); have hbl : Blk W1 w1.heap.size 25 #[.slice A S.sizes.length c, .int .i64 S.params, .int .i64 S.regs, .int .i64 S.code, .int .i64 S.spill, .slice A2 S.blocks.length c2] := hW1 ▸ blk_new _ rfl _ _; have HW1 := Lib.hid hW1; have HUW := Lib.hid hunW; have HBW := Lib.hid hbW; have HBL := Lib.hid hbl; have HVW := Lib.hid (HV.out.below hbW); clear hW1 hun hb hb1 hbW hunW hbl))
      | (go_at_call 13; go_loud (rw [← HW1.out]; refine (copy_any HUW.out z1 z2 z3).mono ?_; rintro x w2 ⟨A', c', A2', c2', rfl, hun2, hb2⟩; have HU2 := Lib.hid hun2; have HB2 := Lib.hid hb2; clear hun2 hb2; unfold unV))
      | (go_at_call 18; go_loud (refine (ck_any HU2.out (HVW.out.below HB2.out) HY1.out HY2.out w2 (Below.refl _ _)).mono ?_; rintro x w3 ⟨rfl, hb3⟩; rw [HE.out]; have hb23 := HB2.out.trans (hb3.mono HB2.out.size); have hbk := HBL.out.below hb23; have q0 : w3.cell? ⟨w1.heap.size, 0, none⟩ = some (.slice A S.sizes.length c) := (hbk.cell 0).trans rfl; have q1 : w3.cell? ⟨w1.heap.size, 1, none⟩ = some (.int .i64 S.params) := (hbk.cell 1).trans rfl; have q2 : w3.cell? ⟨w1.heap.size, 2, none⟩ = some (.int .i64 S.regs) := (hbk.cell 2).trans rfl; have q3 : w3.cell? ⟨w1.heap.size, 3, none⟩ = some (.int .i64 S.code) := (hbk.cell 3).trans rfl; have q4 : w3.cell? ⟨w1.heap.size, 4, none⟩ = some (.int .i64 S.spill) := (hbk.cell 4).trans rfl; have q5 : w3.cell? ⟨w1.heap.size, 5, none⟩ = some (.slice A2 S.blocks.length c2) := (hbk.cell 5).trans rfl; have HB3 := Lib.hid hb23; clear hb3 hb23 hbk))
      | (go_at_call 20; go_loud (refine (HOWN.out w3 A c A2 c2 (HBW.out.trans (HB3.out.mono HBW.out.size))).mono ?_; rintro x w4 ⟨v, rfl, hv, hb4⟩; obtain ⟨A3, c3, rfl⟩ := own_shape hv; have hb14 := HB3.out.trans (hb4.mono HB3.out.size); have hbk := HBL.out.below hb14; have r0 : w4.cell? ⟨w1.heap.size, 0, none⟩ = some (.slice A S.sizes.length c) := (hbk.cell 0).trans rfl; have r1 : w4.cell? ⟨w1.heap.size, 1, none⟩ = some (.int .i64 S.params) := (hbk.cell 1).trans rfl; have r2 : w4.cell? ⟨w1.heap.size, 2, none⟩ = some (.int .i64 S.regs) := (hbk.cell 2).trans rfl; have r3 : w4.cell? ⟨w1.heap.size, 3, none⟩ = some (.int .i64 S.code) := (hbk.cell 3).trans rfl; have r4 : w4.cell? ⟨w1.heap.size, 4, none⟩ = some (.int .i64 S.spill) := (hbk.cell 4).trans rfl; have r5 : w4.cell? ⟨w1.heap.size, 5, none⟩ = some (.slice A2 S.blocks.length c2) := (hbk.cell 5).trans rfl; have hrow : Row (fun g => g < w4.heap.size) w4 (.slice A3 l.length c3) l.length 1 (numV l) := (Row.of_own (N := fun g => True) hv (fun _ _ => trivial) (by decide)).mono (fun _ _ h => h); have HROW := Lib.hid hrow; have HV4 := Lib.hid (HVW.out.below hb14); have HU4 := Lib.hid (HUW.out.below hb14); have HCK : Hid (CkSays w4 S A c A2 c2 0) := Lib.hid (by have h := ck_any HU4.out HV4.out HY1.out HY2.out; rw [HE.out] at h; exact h); have HB4 := Lib.hid hb14; have HW4 := Lib.hid (HBW.out.trans (hb14.mono HBW.out.size)); have HBL4 := Lib.hid hbk; clear hv hb4 hb14 hbk hrow q0 q1 q2 q3 q4 q5))
      | (go_at_call 21; go_loud (go_loud (refine (start_ok HCK.out HG.out HU4.out l A3 c3 HROW.out HN.out).mono ?_; rintro x w5 ⟨F', p, rfl, E⟩; have HE5 := Lib.hid E; clear E r0 r1 r2 r3 r4 r5))))
    go_loopw [11, 12] (fun v11 v12 wr => ∃ (k : Nat) (sm : Int), k ≤ parts.length ∧ k ≤ 20 ∧ v11 = .int .i64 sm ∧ v12 = .int .i64 k ∧ 0 ≤ sm ∧ sm ≤ k * 4999 ∧ EngX layP F' w4 (fun _ => False) wr p S (St.run S sm.toNat (St.init S l))) (fun _ v12 _ => 20 - (intOf v12).toNat)
    case atStart => exact ⟨0, 0, Nat.zero_le _, by decide, rfl, rfl, by decide, by decide, HE5.out⟩
    case round =>
      obtain ⟨k, sm, hk, hk2, rfl, rfl, hs0, hs1, E⟩ := hrel
      have hbr : Below w4.heap.size w4 wr := by
        obtain ⟨L, Q⟩ := E
        exact Q.f.below (fun _ h => h.elim) (Nat.le_refl _)
      have hwr : Below w.heap.size w wr := HW4.out.trans (hbr.mono HW4.out.size)
      by_cases hlt : k < parts.length
      · by_cases h20 : k < 20
        · obtain ⟨g, o, rfl, hg, hc⟩ := row_at (HP.out.fr (M := fun _ => False) (Fr.of_below hwr) fun _ _ => not_false) hlt
          obtain ⟨y, hy⟩ : ∃ y, y = parts[k] := ⟨_, rfl⟩
          have hck : wr.cell? ⟨g, o + k, none⟩ = some (.int .u16 y) := hc _ (by simp [hy, hlt])
          have hyr := HPR.out y (by rw [hy]; exact List.getElem_mem _)
          have hy0 := hyr.1
          have hy1 := hyr.2
          obtain ⟨r, hr⟩ : ∃ r, r = y.tmod 5000 := ⟨_, rfl⟩
          have hr0 : 0 ≤ r := by rw [hr]; exact Int.tmod_nonneg _ hy0
          have hr1 : r ≤ 4999 := by have := Int.tmod_lt_of_pos y (show (0 : Int) < 5000 by decide); omega
          have hsr : sm + r ≤ 104979 := by omega
          have g1 := StGood.run HG.out sm.toNat _ (StGood.init HG.out l (by obtain ⟨_, _, p2⟩ := HG.out.par; have := HN.out; omega)) (by show (0 : Int) + _ ≤ _; omega)
          have g2 := StGood.run HG.out r.toNat _ g1 (by have := (St.run_steps S sm.toNat (St.init S l)).2; have e : (St.init S l).steps = 0 := rfl; omega)
          have hst := (St.run_steps S sm.toNat (St.init S l)).2
          have hst0 : (St.init S l).steps = 0 := rfl
          have hadd : St.run S r.toNat (St.run S sm.toNat (St.init S l)) = St.run S (sm + r).toNat (St.init S l) := by rw [← St.run_add, Int.toNat_add hs0 hr0]
          have hkr := St.run_kind S (sm + r).toNat _ (init_kind S l)
          have hrun := erun_any g1 HG.out E HV4.out not_false r hr0 (by omega) (by omega)
          have hstp := (St.run_steps S (sm + r).toNat (St.init S l)).2
          rw [hadd] at hrun g2
          have HRR : ∀ W, Below w4.heap.size w4 W → Calls Tryd.prog 12 #[unV S A c A2 c2, .slice A3 l.length c3, .int .i64 (sm + r)] W fun x w' => ∃ v, x = .returned (.tuple #[.agg #[v, .int .i64 (kindO (St.run S (sm + r).toNat (St.init S l)).kind), .int .i64 (St.run S (sm + r).toNat (St.init S l)).val], .int .i64 (St.run S (sm + r).toNat (St.init S l)).steps, .int .i64 0]) ∧ RdN w' v (St.run S (sm + r).toNat (St.init S l)).prints ∧ Below W.heap.size W w' := fun W hW =>
            run_ok (HCK.out.below hW) HG.out (HV4.out.below hW) (HU4.out.below hW) l A3 c3 (HROW.out.fr (M := fun _ => False) (Fr.of_below hW) fun _ _ => not_false) HN.out (sm + r) (by omega) (by omega)
          have hrs := hr.symm
          clear hr
          obtain ⟨s2, hs2⟩ : ∃ s2, s2 = St.run S (sm + r).toNat (St.init S l) := ⟨_, rfl⟩
          rw [← hs2] at hrun g2 HRR hkr hstp
          obtain ⟨kd, hkd⟩ : ∃ x, x = kindO s2.kind := ⟨_, rfl⟩
          obtain ⟨en, hen⟩ : ∃ x, x = decide (s2.kind ≠ 0) := ⟨_, rfl⟩
          obtain ⟨vl, hvl⟩ : ∃ x, x = s2.val := ⟨_, rfl⟩
          obtain ⟨st, hse⟩ : ∃ x, x = s2.steps := ⟨_, rfl⟩
          obtain ⟨np, hnp⟩ : ∃ x, x = s2.prints.length := ⟨_, rfl⟩
          have hne : (kd != 3) = en := by rw [hkd, hen]; exact kindO_stop hkr
          have hpl : s2.prints.length ≤ 10000000000000 := by have := g2.pr; omega
          rw [← hkd, ← hvl, ← hen, ← hnp] at hrun
          rw [← hkd, ← hvl, ← hse] at HRR
          have HRUN := Lib.hid hrun
          have HRR := Lib.hid HRR
          have HG2 := Lib.hid g2
          have HS2 := Lib.hid hs2
          have HSE := Lib.hid hse
          have HNP := Lib.hid hnp
          have HPL := Lib.hid hpl
          have HBR := Lib.hid hbr
          clear hs2 hse hnp hpl hrun g1 g2 hst hst0 hadd hkr hstp hkd hvl hen hc hyr hwr E hg hy
          unfold unV at *
          go_wp2_with (first
            | (go_at_call 22; go_loud ((with_reducible refine HRUN.out.mono ?_); rintro x w6 ⟨v, rfl, hv, hev⟩; obtain ⟨A5, c5, rfl⟩ := own_shape hv; have hE6 : EngX layP F' w4 (fun _ => False) w6 p S s2 := (by obtain ⟨L, Q, _⟩ := hev; exact ⟨L, Q⟩); have hE60 := hE6; have hr6 : RdN w6 (.slice A5 np c5) s2.prints := ⟨_, by have h := Row.of_own (N := fun g => True) hv (fun _ _ => trivial) (by decide); rw [HNP.out] at h ⊢; exact h⟩; obtain ⟨W6, hW6⟩ : ∃ W6, W6 = w6.alloc (.cells #[.slice A5 np c5, .int .i64 kd, .int .i64 vl] 30) := ⟨_, rfl⟩; have hb6 : Below w4.heap.size w4 W6 := (by obtain ⟨L, Q⟩ := hE6; rw [hW6]; exact (Q.f.below (fun _ h => h.elim) (Nat.le_refl _)).alloc (Q.f.below (B := w4.heap.size) (fun _ h => h.elim) (Nat.le_refl _)).size _); have hE6 : EngX layP F' w4 (fun _ => False) W6 p S s2 := hW6 ▸ hE6.alloc _; have hr6 : RdN W6 (.slice A5 np c5) s2.prints := hW6 ▸ hr6.below ((Below.refl _ _).alloc (Nat.le_refl _) _); have hob : Blk W6 w6.heap.size 30 #[.slice A5 np c5, .int .i64 kd, .int .i64 vl] := hW6 ▸ blk_new _ rfl _ _; have hb6' : Below w4.heap.size w4 w6 := (by obtain ⟨L, Q⟩ := hE60; exact Q.f.below (fun _ h => h.elim) (Nat.le_refl _)); have hbk := HBL4.out.below hb6'; have nlt : w1.heap.size < w6.heap.size := hbk.lt; have nne : w1.heap.size ≠ w6.heap.size := Nat.ne_of_lt nlt; have nne' := nne.symm; have r0 : w6.cell? ⟨w1.heap.size, 0, none⟩ = some (.slice A S.sizes.length c) := (hbk.cell 0).trans rfl; have r1 : w6.cell? ⟨w1.heap.size, 1, none⟩ = some (.int .i64 S.params) := (hbk.cell 1).trans rfl; have r2 : w6.cell? ⟨w1.heap.size, 2, none⟩ = some (.int .i64 S.regs) := (hbk.cell 2).trans rfl; have r3 : w6.cell? ⟨w1.heap.size, 3, none⟩ = some (.int .i64 S.code) := (hbk.cell 3).trans rfl; have r4 : w6.cell? ⟨w1.heap.size, 4, none⟩ = some (.int .i64 S.spill) := (hbk.cell 4).trans rfl; have r5 : w6.cell? ⟨w1.heap.size, 5, none⟩ = some (.slice A2 S.blocks.length c2) := (hbk.cell 5).trans rfl; have HW6 := Lib.hid hW6; have HE6 := Lib.hid hE6; have HR6 := Lib.hid hr6; have HOB := Lib.hid hob; have HB6 := Lib.hid hb6; clear hW6 hE6 hE60 hb6' hr6 hob hb6 hbk hev hv))
            | (go_at_call 12; go_loud (rw [← HW6.out]; (with_reducible refine (HRR.out W6 HB6.out).mono ?_); rintro x w7 ⟨v, rfl, hv, hb7⟩; obtain ⟨A6, c6, rfl, _⟩ := hv.shape; rw [← HNP.out] at hv ⊢; obtain ⟨W7, hW7⟩ : ∃ W7, W7 = w7.alloc (.cells #[.slice A6 np c6, .int .i64 kd, .int .i64 vl] 30) := ⟨_, rfl⟩; have hb67 : Below W6.heap.size W6 W7 := (by rw [hW7]; exact hb7.alloc hb7.size _); have hE7 := HE6.out.below hb67; have hr7 := HR6.out.below hb67; have hs7 : RdN W7 (.slice A6 np c6) s2.prints := hW7 ▸ hv.below ((Below.refl _ _).alloc (Nat.le_refl _) _); have hob := HOB.out.below hb67; have hoc : Blk W7 w7.heap.size 30 #[.slice A6 np c6, .int .i64 kd, .int .i64 vl] := hW7 ▸ blk_new _ rfl _ _; have hob7 := HOB.out.below hb7; have mlt : w6.heap.size < w7.heap.size := hob7.lt; have mne : w6.heap.size ≠ w7.heap.size := Nat.ne_of_lt mlt; have mne' := mne.symm; have s0 : w7.cell? ⟨w6.heap.size, 0, none⟩ = some (.slice A5 np c5) := (hob7.cell 0).trans rfl; have s1 : w7.cell? ⟨w6.heap.size, 1, none⟩ = some (.int .i64 kd) := (hob7.cell 1).trans rfl; have s2' : w7.cell? ⟨w6.heap.size, 2, none⟩ = some (.int .i64 vl) := (hob7.cell 2).trans rfl; have HW7 := Lib.hid hW7; have HE7 := Lib.hid hE7; have HR7 := Lib.hid hr7; have HS7 := Lib.hid hs7; have HOC := Lib.hid hoc; clear hW7 hE7 hr7 hs7 hob hob7 hoc hb7 hb67 hv r0 r1 r2 r3 r4 r5))
            | (go_at_call 15; go_loud (try rw [← HW7.out]; refine (outs_true kd vl s2.prints HR7.out HS7.out HPL.out).mono ?_; rintro x w8 ⟨rfl, hb8⟩; have hoc8 := HOC.out.below hb8; have u1 : w8.cell? ⟨w7.heap.size, 1, none⟩ = some (.int .i64 kd) := (hoc8.cell 1).trans rfl; have HE8 := Lib.hid (HE7.out.below hb8); clear hb8 hoc8))
            | (go_at_call 23; go_loud (refine (esteps_any HG.out HG2.out HE8.out).mono ?_; rintro x w9 ⟨rfl, rfl⟩; rw [← HSE.out])))
          go_roundw
          case rel => exact ⟨k + 1, sm + r, by omega, by omega, by go_num, by go_num, by omega, by omega, by rw [← HS2.out]; exact HE8.out⟩
          case measure => simp [intOf]; omega
        · have hnk : ¬ (k : Int) < 20 := by omega
          have HWR := Lib.hid hwr
          have HVR := Lib.hid (HV.out.below hwr)
          clear hbr hwr E
          go_wp2_with (go_at_call 16; refine (alive_true HVR.out).mono ?_; rintro x w6 ⟨rfl, hb⟩; have HB6 := Lib.hid hb; clear hb)
          go_ret
          exact ⟨rfl, HWR.out.trans (HB6.out.mono HWR.out.size)⟩
      · have HWR := Lib.hid hwr
        have HVR := Lib.hid (HV.out.below hwr)
        clear hbr hwr E
        go_wp2_with (go_at_call 16; refine (alive_true HVR.out).mono ?_; rintro x w6 ⟨rfl, hb⟩; have HB6 := Lib.hid hb; clear hb)
        go_ret
        exact ⟨rfl, HWR.out.trans (HB6.out.mono HWR.out.size)⟩
  · obtain ⟨e, he⟩ : ∃ e, e = unErr S := ⟨_, rfl⟩
    rw [← he] at hE
    have hn : (e != 0) = true := by simpa using hE
    have HE := Lib.hid he.symm
    clear he hE
    unfold unV unC at *
    go_enter Tryd.func5, Tryd.ntmps5
    go_wp2_with (first
      | (go_at_call 10; go_loud (rw [← HW0.out]; refine HSM.out.mono ?_; rintro x w1 ⟨A, c, A2, c2, rfl, hun, hb⟩; obtain ⟨W1, hW1⟩ : ∃ W1, W1 = w1.alloc (.cells #[.slice A S.sizes.length c, .int .i64 S.params, .int .i64 S.regs, .int .i64 S.code, .int .i64 S.spill, .slice A2 S.blocks.length c2] 25) := ⟨_, rfl⟩; have hb1 : Below w.heap.size w w1 := H0.out.trans (hb.mono H0.out.size); have hbW : Below w.heap.size w W1 := hW1 ▸ hb1.alloc hb1.size _; have hunW : UnIn (fun g => g < w1.heap.size) W1 S A c A2 c2 := hW1 ▸ (hun.mono (fun g hg hlt => hlt) (fun g hg => hg)).below ((Below.refl _ _).alloc (Nat.le_refl _) _); have hbl : Blk W1 w1.heap.size 25 #[.slice A S.sizes.length c, .int .i64 S.params, .int .i64 S.regs, .int .i64 S.code, .int .i64 S.spill, .slice A2 S.blocks.length c2] := hW1 ▸ blk_new _ rfl _ _; have HW1 := Lib.hid hW1; have HUW := Lib.hid hunW; have HBW := Lib.hid hbW; have HBL := Lib.hid hbl; have HVW := Lib.hid (HV.out.below hbW); clear hW1 hun hb hb1 hbW hunW hbl))
      | (go_at_call 13; go_loud (rw [← HW1.out]; refine (copy_any HUW.out z1 z2 z3).mono ?_; rintro x w2 ⟨A', c', A2', c2', rfl, hun2, hb2⟩; have HU2 := Lib.hid hun2; have HB2 := Lib.hid hb2; clear hun2 hb2; unfold unV))
      | (go_at_call 18; go_loud (refine (ck_any HU2.out (HVW.out.below HB2.out) HY1.out HY2.out w2 (Below.refl _ _)).mono ?_; rintro x w3 ⟨rfl, hb3⟩; rw [HE.out]; have hb23 := HB2.out.trans (hb3.mono HB2.out.size); have HVR := Lib.hid (HVW.out.below hb23); have HWR := Lib.hid (HBW.out.trans (hb23.mono HBW.out.size)); clear hb3 hb23))
      | (go_at_call 16; refine (alive_true HVR.out).mono ?_; rintro x w6 ⟨rfl, hb⟩; have HB6 := Lib.hid hb; clear hb))
    go_ret
    exact ⟨rfl, HWR.out.trans (HB6.out.mono HWR.out.size)⟩
end Go.Proofs.YtfkjkdoloamakaaDoor

/- What the rows of the laws on runs list is what the walks ask: the table of forms; the door's own heap meets it. -/
namespace Go.Proofs.YtfkjkdoloamakaaDoor
open Go.ChangeShapes Go.WideShapes Go.ChangeAt Go.RowKit

theorem own : ownKnob Tryd.prog.godebug = none := by kernel_rfl
def laid1 : List (String × DataW Unit) := [("bireme/code.forms", Rows.laid_bireme_code_forms)]
/-- The door's own heap meets the condition. -/
theorem door_met (os : Os) (args : Array Value) : laidMetH Tryd.prog laid1 ((World.doorLaid Tryd.prog 39 os).forCall (fun _ _ => 0) ⟨#[], args, []⟩).memory :=
  laidMetH_of_parts3 (fuel := 8) (laidMet_of_run' 8 (by kernel_rfl) (by kernel_rfl)) (by kernel_rfl) (by kernel_rfl)

def formD {H : Type} (x : Int × Int × List UInt8) : DataW H := .agg [.lit (.int .i64 x.1), .lit (.int .i64 x.2.1), .lit (.string x.2.2)]
theorem forms_data : (Rows.laid_bireme_code_forms : DataW Unit) = .agg (formsL.map formD) := by rfl
theorem tForms : (Tryd.prog.globals[0]?).map (·.type) = some 179 := by kernel_rfl
theorem cForms : Tryd.prog.cellsOf 179 = 75 := by kernel_rfl
theorem cForm : Tryd.prog.cellsOf 160 = 3 := by kernel_rfl
theorem cInt : Tryd.prog.cellsOf 3 = 1 := by kernel_rfl
theorem cStr : Tryd.prog.cellsOf 9 = 1 := by kernel_rfl
set_option maxRecDepth 100000 in
theorem formC_of : ∀ (l : List (Int × Int × List UInt8)) (cs : List Value), cs.length = l.length * 3 → (∀ i x, l[i]? = some x → (cs.drop (i * 3)).take 3 = formC [x]) → cs = formC l
  | [], cs, hl, _ => List.eq_nil_of_length_eq_zero (by simpa using hl)
  | (u, c, n) :: l, cs, hl, h => by
    match cs, hl with
    | a :: b :: d :: cs', hl =>
      have h0 := h 0 _ rfl
      simp only [Nat.zero_mul, List.drop_zero, List.take_succ_cons, List.take_zero, formC, List.cons.injEq, and_true] at h0
      obtain ⟨rfl, rfl, rfl⟩ := h0
      have ih := formC_of l cs' (by simp at hl; omega) fun i x hx => by
        have h1 := h (i + 1) x (by simpa using hx)
        rw [show (i + 1) * 3 = i * 3 + 1 + 1 + 1 by omega] at h1
        simpa using h1
      rw [ih]; rfl
    | [], hl => simp at hl
    | [_], hl => simp at hl; omega
    | [_, _], hl => simp at hl; omega
set_option maxRecDepth 100000 in
theorem form_cells {H : Type} {enc : TypeId × Value → H} {w : World} {base : Nat} {sp : Nat → Bool} {held : Bool} {fuel : Nat} {cs : List Value} {x : Int × Int × List UInt8} {p : List MemPlace}
    (h : DataW.trod enc Tryd.prog w base sp held fuel 160 cs = some (formD x, p)) : cs = formC [x] := by
  obtain ⟨u, c, n⟩ := x
  obtain ⟨xs, m, _, hx, hl, hn, hf⟩ := DataW.trod_struct Tryd.underlying160 h
  rw [cForm] at hl
  match cs, hl with
  | [a, b, d], _ =>
    match xs, hn with
    | [x0, x1, x2], _ =>
      have f0 := hf 0 _ rfl
      have f1 := hf 1 _ rfl
      have f2 := hf 2 _ rfl
      simp [cInt, cStr] at f0 f1 f2
      simp only [formD, List.map_cons, List.map_nil, Prod.mk.injEq, DataW.agg.injEq, List.cons.injEq, and_true] at hx
      obtain ⟨⟨e0, e1, e2⟩, _⟩ := hx
      obtain ⟨u', hu, rfl, _⟩ := DataW.trod_int Tryd.underlying3 f0
      obtain ⟨c', hc, rfl, _⟩ := DataW.trod_int Tryd.underlying3 f1
      obtain ⟨s, hs, rfl, _⟩ := DataW.trod_string Tryd.underlying9 f2
      simp only [List.cons.injEq, and_true] at hu hc hs
      simp only [DataW.lit.injEq, Lit.int.injEq, Lit.string.injEq, true_and] at e0 e1 e2
      subst e0 e1 e2 hu hc hs
      rfl
set_option maxRecDepth 100000 in
theorem env_of_laid {W : World} (h : laidMetH Tryd.prog laid1 W) : Env W := by
  rw [MakeChecks.laidMetH_plain _ _ _ (by kernel_rfl)] at h
  obtain ⟨ps, ⟨g', t', cs, fuel, p, q, hg', ht', hvar, hd, _, _⟩, _⟩ := h
  obtain rfl := Option.some.inj (gForms.symm.trans hg')
  obtain rfl := Option.some.inj (tForms.symm.trans ht')
  rw [forms_data] at hd
  obtain ⟨xs, m, _, hx, hl, hn, hf⟩ := DataW.trod_array Tryd.underlying179 hd
  simp only [Prod.mk.injEq, DataW.agg.injEq] at hx
  rw [cForms] at hl
  have e : cs.toList = formC formsL := by
    refine formC_of formsL cs.toList (by rw [hl]; rfl) fun i x hi => ?_
    have hi25 : i < 25 := (List.getElem?_eq_some_iff.1 hi).1
    have h1 := hf i hi25
    rw [cForm] at h1
    have h2 : (xs.map (·.1))[i]? = some (formD x) := by rw [← hx.1, List.getElem?_map, hi]; rfl
    rw [List.getElem?_map] at h2
    cases hxi : xs[i]? with
    | none => rw [hxi] at h2; cases h2
    | some y =>
      rw [hxi] at h2 h1
      simp only [Option.map_some, Option.some.injEq] at h2
      obtain ⟨d, pp⟩ := y
      subst h2
      exact form_cells h1
  unfold Env
  rw [hvar, ← e]
theorem post_new {H : Type} {enc : TypeId × Value → H} {P : Program} {f : Func} {s : ChangeSpec} {apart fresh handsOn : Bool} {W W' : World} {args : Array Value} {v : Value} {ds gs : List (DataW H)} {pa pv : List MemPlace}
    (hW : DataW.Whole enc P f.params.toList s.vars apart W args.toList ds gs (pa ++ pv))
    (hres : ∀ (b : Nat) (sp : Nat → Bool) (hd : Bool), DataW.TrodAll enc P W' b sp hd f.resultTypes.toList (v.resultList f.resultTypes.size) (s.fn H (ds ++ gs)).results [])
    (hargs : ∀ sp : Nat → Bool, (∀ p ∈ pa ++ pv, sp p.block = true) → DataW.TrodAll enc P W' 0 sp true f.params.toList args.toList (s.fn H (ds ++ gs)).args pa)
    (hvars : ∀ sp : Nat → Bool, (∀ p ∈ pa ++ pv, sp p.block = true) → DataW.TrodVars enc P W' sp s.vars (s.fn H (ds ++ gs)).vars pv)
    (hb : Below W.heap.size W W') : s.post enc P f apart fresh handsOn false W args v W' := by
  have hold : ∀ p ∈ pa ++ pv, (fun b => decide (b < W.heap.size)) p.block = true := fun p hp => by simpa using hW.lt p hp
  exact ⟨ds, gs, pa ++ pv, [], pa, pv, hW, hres _ _ _, hargs _ hold, hvars _ hold, hb.frame _, fun h => by cases h⟩
theorem fits_of {a : Int} (h : (Lit.int .i64 a).wf = true) : -9223372036854775808 ≤ a ∧ a ≤ 9223372036854775807 := by
  simp [Lit.wf, IntKind.min, IntKind.max, IntKind.signed, IntKind.bits] at h
  omega
end Go.Proofs.YtfkjkdoloamakaaDoor

/- A unit, numbers, parts, opened: what an argument that reads as data is in memory. -/
namespace Go.Proofs.YtfkjkdoloamakaaDoor
open Go.ChangeShapes Go.WideShapes Go.ChangeAt Go.RowKit
set_option linter.unusedVariables false
section
variable {H : Type} {enc : TypeId × Value → H} {W : World} {fuel : Nat} {cs : List Value} {x : DataW H × List MemPlace}

instance : Inhabited OpI := ⟨dOp⟩
instance : Inhabited BlkS := ⟨dBl⟩
instance : Inhabited (BlkS × Value) := ⟨(dBl, .nilFunc)⟩
theorem row_of_cells {a : Addr} {len cap size : Nat} {xs : List Value} (hs : 0 < size) (hl : xs.length = len * size) (hlc : len ≤ cap) (hm : cap ≤ maxLen) (c : Nat → List Value)
    (hc : ∀ i, i < len → W.cells? 0 (a.add (i * size)) size = some (c i)) (hx : ∀ i, i < len → ∀ j, j < size → xs[i * size + j]? = (c i)[j]?) :
    Row (fun g => g < W.heap.size) W (.slice (some a) len cap) len size xs := by
  refine ⟨hl, some a, cap, rfl, hlc, hm, fun hp => ?_⟩
  have at_ : ∀ i, i < len → ∀ j, j < size → W.cell? ((a.add (i * size)).add j) = xs[i * size + j]? := fun i hi j hj => by
    rw [hx i hi j hj]
    exact (World.cells?_some (hc i hi)).2.2 j hj
  have h0 := at_ 0 hp 0 hs
  have hpos : 0 < xs.length := by rw [hl]; exact Nat.mul_pos hp hs
  rw [Nat.zero_mul, Nat.zero_add, List.getElem?_eq_getElem hpos] at h0
  obtain ⟨b, off, spot⟩ := a
  have hspot : spot = none := by simpa [Addr.add] using World.cell?_spot h0
  subst hspot
  refine ⟨b, off, rfl, ?_, ?_, fun j u hu => ?_⟩
  · have := World.block_lt_of_cell? W _ h0; simpa [Addr.add] using this
  · have := World.block_lt_of_cell? W _ h0; simpa [Addr.add] using this
  · have hj : j < len * size := by rw [← hl]; exact (List.getElem?_eq_some_iff.1 hu).1
    have h1 := at_ (j / size) (Nat.div_lt_of_lt_mul (by rw [Nat.mul_comm]; exact hj)) (j % size) (Nat.mod_lt _ hs)
    have e : j / size * size + j % size = j := by rw [Nat.mul_comm]; exact Nat.div_add_mod _ _
    rw [e, hu, add_plain, add_plain, Nat.add_assoc, e] at h1
    exact h1

theorem slice_weight {t e : TypeId} {el sp : List (DataW H)} (ht : Tryd.prog.underlying t = some (.slice e)) (hw : ∀ n ∈ (DataW.slice el sp).weights Tryd.prog t, n ≤ reachBytes) : el.length * Tryd.prog.bytesOf e ≤ reachBytes := by
  have := hw ((el.length + sp.length) * Tryd.prog.bytesOf e) (by simp [DataW.weights, ht])
  exact Nat.le_trans (Nat.mul_le_mul_right _ (Nat.le_add_right _ _)) this
theorem weights_mem_all {t : TypeId} : ∀ {el : List (DataW H)} {d : DataW H}, d ∈ el → ∀ n ∈ d.weights Tryd.prog t, n ∈ DataW.weightsAll Tryd.prog t el
  | c :: r, d, hd, n, hn => by
    simp only [DataW.weightsAll, List.mem_append]
    rcases List.mem_cons.1 hd with rfl | hd
    · exact .inl hn
    · exact .inr (weights_mem_all hd n hn)
theorem slice_elem {t e : TypeId} {el sp : List (DataW H)} {d : DataW H} (ht : Tryd.prog.underlying t = some (.slice e)) (hw : ∀ n ∈ (DataW.slice el sp).weights Tryd.prog t, n ≤ reachBytes) (hd : d ∈ el) : ∀ n ∈ d.weights Tryd.prog e, n ≤ reachBytes := fun n hn =>
  hw n (by simp only [DataW.weights, ht, List.mem_cons, List.mem_append]; exact .inr (.inl (weights_mem_all hd n hn)))
theorem open_nums {t e : TypeId} {k : IntKind} (ht : Tryd.prog.underlying t = some (.slice e)) (he : Tryd.prog.underlying e = some (.int k)) (hce : Tryd.prog.cellsOf e = 1) (h : DataW.trod enc Tryd.prog W 0 (fun _ => true) true fuel t cs = some x) :
    ∃ (l : List Int) (A : Option Addr) (c : Nat), cs = [.slice A l.length c] ∧ l.length ≤ maxLen ∧ Row (fun g => g < W.heap.size) W (.slice A l.length c) l.length 1 (l.map (Value.int k)) ∧ (∀ z ∈ l, (Lit.int k z).wf = true) ∧
      ((∀ n ∈ x.1.weights Tryd.prog t, n ≤ reachBytes) → l.length * Tryd.prog.bytesOf e ≤ reachBytes) := by
  rcases Go.Deep.open_slice ht h with ⟨rfl, rfl⟩ | ⟨a, len, cap, m, n, D, Pl, rfl, _, hl, hm, rfl, rfl, hx⟩
  · exact ⟨[], none, 0, rfl, Nat.zero_le _, ⟨rfl, none, 0, rfl, Nat.le_refl _, Nat.zero_le _, fun h => absurd h (Nat.lt_irrefl 0)⟩, (fun _ h => by cases h), (fun _ => by simp)⟩
  · obtain ⟨V, hV⟩ := Go.Deep.choose_lt (α := Int) (p := fun i u => W.cells? 0 (a.add (i * 1)) 1 = some [.int k u] ∧ (Lit.int k u).wf = true) (n := len) (fun i hi => by
      obtain ⟨cs', h1, h2⟩ := hx i (by omega)
      obtain ⟨u, rfl, _, hw⟩ := DataW.trod_int he h2
      rw [hce] at h1
      exact ⟨u, h1, hw⟩)
    have hlen : ((List.range len).map V).length = len := by simp
    refine ⟨(List.range len).map V, some a, _, by rw [hlen], by omega, ?_, fun z hz => ?_, fun hw => ?_⟩
    · rw [hlen]
      refine row_of_cells (by decide) (by simp) hl hm (fun i => [.int k (V i)]) (fun i hi => (hV i hi).1) (fun i hi j hj => ?_)
      obtain rfl : j = 0 := by omega
      simp [hi]
    · obtain ⟨i, hi, rfl⟩ := List.mem_map.1 hz
      exact (hV i (List.mem_range.1 hi)).2
    · rw [hlen]
      have := slice_weight ht hw
      simpa using this

theorem int1 : Tryd.prog.cellsOf 3 = 1 := by kernel_rfl
theorem int2 : Tryd.prog.cellsOf 2 = 1 := by kernel_rfl
set_option maxRecDepth 100000 in
theorem open_op (h : DataW.trod enc Tryd.prog W 0 (fun _ => true) true fuel 76 cs = some x) : ∃ o, cs = opC o := by
  obtain ⟨xs, m, _, hx, hl, hn, hf⟩ := DataW.trod_struct Tryd.underlying76 h
  have c7 : Tryd.prog.cellsOf 76 = 7 := by kernel_rfl
  rw [c7] at hl
  match cs, hl with
  | [a, b, c, d, e, f, g], _ =>
    match xs, hn with
    | [x0, x1, x2, x3, x4, x5, x6], _ =>
      have f0 := hf 0 _ rfl
      have f1 := hf 1 _ rfl
      have f2 := hf 2 _ rfl
      have f3 := hf 3 _ rfl
      have f4 := hf 4 _ rfl
      have f5 := hf 5 _ rfl
      have f6 := hf 6 _ rfl
      simp [int1, int2] at f0 f1 f2 f3 f4 f5 f6
      obtain ⟨u0, h0, _, _⟩ := DataW.trod_int Tryd.underlying3 f0
      obtain ⟨u1, h1, _, _⟩ := DataW.trod_int Tryd.underlying3 f1
      obtain ⟨u2, h2, _, _⟩ := DataW.trod_int Tryd.underlying3 f2
      obtain ⟨u3, h3, _, _⟩ := DataW.trod_int Tryd.underlying3 f3
      obtain ⟨u4, h4, _, _⟩ := DataW.trod_int Tryd.underlying3 f4
      obtain ⟨u5, h5, _, _⟩ := DataW.trod_int Tryd.underlying2 f5
      obtain ⟨u6, h6, _, _⟩ := DataW.trod_int Tryd.underlying3 f6
      simp only [List.cons.injEq, and_true] at h0 h1 h2 h3 h4 h5 h6
      subst h0 h1 h2 h3 h4 h5 h6
      exact ⟨⟨u0, u1, u2, u3, u4, u5, u6⟩, rfl⟩
theorem open_ops (h : DataW.trod enc Tryd.prog W 0 (fun _ => true) true fuel 69 cs = some x) :
    ∃ (l : List OpI) (A : Option Addr) (c : Nat), cs = [.slice A l.length c] ∧ Row (fun g => g < W.heap.size) W (.slice A l.length c) l.length 7 (opsC l) ∧ ((∀ n ∈ x.1.weights Tryd.prog 69, n ≤ reachBytes) → l.length * 56 ≤ reachBytes) := by
  have c7 : Tryd.prog.cellsOf 76 = 7 := by kernel_rfl
  have b7 : Tryd.prog.bytesOf 76 = 56 := by kernel_rfl
  rcases Go.Deep.open_slice Tryd.underlying69 h with ⟨rfl, rfl⟩ | ⟨a, len, cap, m, n, D, Pl, rfl, _, hl, hm, rfl, rfl, hx⟩
  · exact ⟨[], none, 0, rfl, ⟨rfl, none, 0, rfl, Nat.le_refl _, Nat.zero_le _, fun h => absurd h (Nat.lt_irrefl 0)⟩, (fun _ => by simp)⟩
  · obtain ⟨V, hV⟩ := Go.Deep.choose_lt (α := OpI) (p := fun i o => W.cells? 0 (a.add (i * 7)) 7 = some (opC o)) (n := len) (fun i hi => by
      obtain ⟨cs', h1, h2⟩ := hx i (by omega)
      obtain ⟨o, rfl⟩ := open_op h2
      rw [c7] at h1
      exact ⟨o, h1⟩)
    have hlen : ((List.range len).map V).length = len := by simp
    refine ⟨(List.range len).map V, some a, _, by rw [hlen], ?_, fun hw => ?_⟩
    · rw [hlen]
      refine row_of_cells (by decide) (by rw [opsC_length, hlen]) hl hm (fun i => opC (V i)) (fun i hi => hV i hi) (fun i hi j hj => ?_)
      rw [opsC_at _ i (by rw [hlen]; exact hi) j hj]
      simp [List.getD_eq_getElem?_getD, hi]
    · rw [hlen]
      have := slice_weight Tryd.underlying69 hw
      rw [b7] at this
      simpa using this
set_option maxRecDepth 100000 in
theorem open_end (h : DataW.trod enc Tryd.prog W 0 (fun _ => true) true fuel 71 cs = some x) : ∃ e, cs = edC e := by
  obtain ⟨xs, m, _, hx, hl, hn, hf⟩ := DataW.trod_struct Tryd.underlying71 h
  have c7 : Tryd.prog.cellsOf 71 = 4 := by kernel_rfl
  rw [c7] at hl
  match cs, hl with
  | [a, b, c, d], _ =>
    match xs, hn with
    | [x0, x1, x2, x3], _ =>
      have f0 := hf 0 _ rfl
      have f1 := hf 1 _ rfl
      have f2 := hf 2 _ rfl
      have f3 := hf 3 _ rfl
      simp [int1] at f0 f1 f2 f3
      obtain ⟨u0, h0, _, _⟩ := DataW.trod_int Tryd.underlying3 f0
      obtain ⟨u1, h1, _, _⟩ := DataW.trod_int Tryd.underlying3 f1
      obtain ⟨u2, h2, _, _⟩ := DataW.trod_int Tryd.underlying3 f2
      obtain ⟨u3, h3, _, _⟩ := DataW.trod_int Tryd.underlying3 f3
      simp only [List.cons.injEq, and_true] at h0 h1 h2 h3
      subst h0 h1 h2 h3
      exact ⟨⟨u0, u1, u2, u3⟩, rfl⟩
set_option maxRecDepth 100000 in
theorem open_block (h : DataW.trod enc Tryd.prog W 0 (fun _ => true) true fuel 73 cs = some x) :
    ∃ (b : BlkS) (A : Option Addr) (c : Nat), cs = .slice A b.ops.length c :: edC b.ed ++ [.int .i64 b.ct] ∧ Row (fun g => g < W.heap.size) W (.slice A b.ops.length c) b.ops.length 7 (opsC b.ops) ∧ ((∀ n ∈ x.1.weights Tryd.prog 73, n ≤ reachBytes) → b.ops.length * 56 ≤ reachBytes) := by
  obtain ⟨xs, m, _, rfl, hl, hn, hf⟩ := DataW.trod_struct Tryd.underlying73 h
  have c6 : Tryd.prog.cellsOf 73 = 6 := by kernel_rfl
  have c4 : Tryd.prog.cellsOf 71 = 4 := by kernel_rfl
  have c1 : Tryd.prog.cellsOf 69 = 1 := by kernel_rfl
  rw [c6] at hl
  match cs, hl with
  | [a, b, c, d, e, f], _ =>
    match xs, hn with
    | [x0, x1, x2], _ =>
      have f0 := hf 0 _ rfl
      have f1 := hf 1 _ rfl
      have f2 := hf 2 _ rfl
      simp [int1, c4, c1] at f0 f1 f2
      obtain ⟨l, A, cc, h0, hR, hw⟩ := open_ops f0
      obtain ⟨ed, h1⟩ := open_end f1
      obtain ⟨u2, h2, _, _⟩ := DataW.trod_int Tryd.underlying3 f2
      simp only [List.cons.injEq, and_true] at h0 h2
      subst h0 h2
      refine ⟨⟨l, ed, u2⟩, A, cc, ?_, hR, fun hh => hw fun n hn => hh n ?_⟩
      · rw [← h1]; rfl
      · simp only [DataW.weights, Tryd.underlying73]
        exact DataW.weights_mem_each (j := 0) rfl rfl n hn
set_option maxRecDepth 100000 in
theorem open_blocks (h : DataW.trod enc Tryd.prog W 0 (fun _ => true) true fuel 23 cs = some x) :
    ∃ (l : List BlkS) (A : Option Addr) (c : Nat), cs = [.slice A l.length c] ∧ RdBlocks (fun g => g < W.heap.size) W (.slice A l.length c) l ∧
      ((∀ n ∈ x.1.weights Tryd.prog 23, n ≤ reachBytes) → l.length * 64 ≤ reachBytes ∧ ∀ b ∈ l, b.ops.length * 56 ≤ reachBytes) := by
  have c6 : Tryd.prog.cellsOf 73 = 6 := by kernel_rfl
  have b6 : Tryd.prog.bytesOf 73 = 64 := by kernel_rfl
  rcases Go.Deep.open_slice Tryd.underlying23 h with ⟨rfl, rfl⟩ | ⟨a, len, cap, m, n, D, Pl, rfl, _, hl, hm, rfl, rfl, hx⟩
  · exact ⟨[], none, 0, rfl, ⟨[], rfl, ⟨rfl, none, 0, rfl, Nat.le_refl _, Nat.zero_le _, fun h => absurd h (Nat.lt_irrefl 0)⟩, fun i hi => absurd hi (Nat.not_lt_zero i)⟩, (fun _ => ⟨by simp, fun b hb => by cases hb⟩)⟩
  · obtain ⟨V, hV⟩ := Go.Deep.choose_lt (α := BlkS × Value) (p := fun i o => W.cells? 0 (a.add (i * 6)) 6 = some (o.2 :: edC o.1.ed ++ [.int .i64 o.1.ct]) ∧ Row (fun g => g < W.heap.size) W o.2 o.1.ops.length 7 (opsC o.1.ops) ∧ ((∀ n ∈ (D i).weights Tryd.prog 73, n ≤ reachBytes) → o.1.ops.length * 56 ≤ reachBytes)) (n := len) (fun i hi => by
      obtain ⟨cs', h1, h2⟩ := hx i (by omega)
      obtain ⟨b, A, c, rfl, hR, hw⟩ := open_block h2
      rw [c6] at h1
      exact ⟨(b, .slice A b.ops.length c), h1, hR, hw⟩)
    have hlen : ((List.range len).map fun i => (V i).1).length = len := by simp
    have hlen2 : ((List.range len).map fun i => (V i).2).length = len := by simp
    have hat : ∀ i, i < len → ((List.range len).map fun i => (V i).1).getD i dBl = (V i).1 := fun i hi => by simp [List.getD_eq_getElem?_getD, hi]
    have hat2 : ∀ i, i < len → ((List.range len).map fun i => (V i).2).getD i .nilFunc = (V i).2 := fun i hi => by simp [List.getD_eq_getElem?_getD, hi]
    refine ⟨(List.range len).map fun i => (V i).1, some a, _, by rw [hlen], ⟨(List.range len).map fun i => (V i).2, by rw [hlen, hlen2], ?_, fun i hi => ?_⟩, fun hw => ⟨?_, fun b hb => ?_⟩⟩
    · rw [hlen]
      refine row_of_cells (by decide) (by rw [blsC_length _ _ (by rw [hlen, hlen2]), hlen]) hl hm (fun i => (V i).2 :: edC (V i).1.ed ++ [.int .i64 (V i).1.ct]) (fun i hi => (hV i hi).1) (fun i hi j hj => ?_)
      rw [blsC_at _ _ (by rw [hlen, hlen2]) i (by rw [hlen]; exact hi) j hj, hat i hi, hat2 i hi]
    · have hi' : i < len := by rw [hlen] at hi; exact hi
      have e : ((List.range len).map fun i => (V i).1)[i] = (V i).1 := by simp
      rw [e, hat2 i hi']
      exact (hV i hi').2.1
    · rw [hlen]
      have := slice_weight Tryd.underlying23 hw
      rw [b6] at this
      simpa using this
    · obtain ⟨i, hi, rfl⟩ := List.mem_map.1 hb
      exact (hV i (List.mem_range.1 hi)).2.2 (slice_elem Tryd.underlying23 hw (List.mem_map.2 ⟨i, hi, rfl⟩))
set_option maxRecDepth 100000 in
theorem open_unit (h : DataW.trod enc Tryd.prog W 0 (fun _ => true) true fuel 25 cs = some x) :
    ∃ (U : UnS) (Av : Option Addr) (cv : Nat) (Ab : Option Addr) (cb : Nat), cs = (unC U Av cv Ab cb).toList ∧ UnIn (fun g => g < W.heap.size) W U Av cv Ab cb ∧
      ((∀ n ∈ x.1.weights Tryd.prog 25, n ≤ reachBytes) → U.sizes.length * 8 ≤ reachBytes ∧ U.blocks.length * 64 ≤ reachBytes ∧ ∀ b ∈ U.blocks, b.ops.length * 56 ≤ reachBytes) := by
  obtain ⟨xs, m, _, rfl, hl, hn, hf⟩ := DataW.trod_struct Tryd.underlying25 h
  have c6 : Tryd.prog.cellsOf 25 = 6 := by kernel_rfl
  have c1 : Tryd.prog.cellsOf 22 = 1 := by kernel_rfl
  have c2 : Tryd.prog.cellsOf 23 = 1 := by kernel_rfl
  have b1 : Tryd.prog.bytesOf 3 = 8 := by kernel_rfl
  rw [c6] at hl
  match cs, hl with
  | [a, b, c, d, e, f], _ =>
    match xs, hn with
    | [x0, x1, x2, x3, x4, x5], _ =>
      have f0 := hf 0 _ rfl
      have f1 := hf 1 _ rfl
      have f2 := hf 2 _ rfl
      have f3 := hf 3 _ rfl
      have f4 := hf 4 _ rfl
      have f5 := hf 5 _ rfl
      simp [int1, c1, c2] at f0 f1 f2 f3 f4 f5
      obtain ⟨sz, A, cc, h0, _, hR, _, hw⟩ := open_nums Tryd.underlying22 Tryd.underlying3 int1 f0
      obtain ⟨u1, h1, _, _⟩ := DataW.trod_int Tryd.underlying3 f1
      obtain ⟨u2, h2, _, _⟩ := DataW.trod_int Tryd.underlying3 f2
      obtain ⟨u3, h3, _, _⟩ := DataW.trod_int Tryd.underlying3 f3
      obtain ⟨u4, h4, _, _⟩ := DataW.trod_int Tryd.underlying3 f4
      obtain ⟨bl, A5, c5, h5, hB, hw5⟩ := open_blocks f5
      simp only [List.cons.injEq, and_true] at h0 h1 h2 h3 h4 h5
      subst h0 h1 h2 h3 h4 h5
      rw [b1] at hw
      refine ⟨⟨sz, u1, u2, u3, u4, bl⟩, A, cc, A5, c5, rfl, ⟨hR, hB, fun _ h => h⟩, fun hh => ⟨hw fun n hn => hh n ?_, hw5 fun n hn => hh n ?_⟩⟩
      · simp only [DataW.weights, Tryd.underlying25]
        exact DataW.weights_mem_each (j := 0) rfl rfl n hn
      · simp only [DataW.weights, Tryd.underlying25]
        exact DataW.weights_mem_each (j := 5) rfl rfl n hn
end
end Go.Proofs.YtfkjkdoloamakaaDoor
