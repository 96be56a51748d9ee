/- Ops of package code, an iterator: it hands its loop the operations of all blocks, in order. -/
import Derived.RangeFuncNested
import Derived.RangeFuncBound
import Derived.RangeFuncCalls
import Derived.RangeFuncLeaves
import Derived.Shelf.Abstract
import Derived.Shelf.RegionOpen
import Derived.WalkKit
import Derived.OwnWalkIn
import Derived.TacticsInMore
import Derived.LoopNIn
import Derived.LoopIn
import Derived.Test.YtfkjkdoloamakaaDoorYe
import Derived.Test.YtfkjkdoloamakaaDoorMg
namespace Go.Proofs.YtfkjkdoloamakaaDoor
open Go.RowKit
set_option linter.unusedVariables false
set_option linter.unusedSimpArgs false
attribute [local go_sem] Oper.semAt_some
variable {w : World} {F : Nat → Prop} {U : UnS} {Av Ab : Option Addr} {cv cb : Nat}

/-- an operation of the unit -/
abbrev OpU (U : UnS) := { o : OpI // ∃ b ∈ U.blocks, o ∈ b.ops }
/-- what has come when i blocks are over, and m operations of the next -/
def cameU (U : UnS) (i m : Nat) : List OpI := (U.blocks.take i).flatMap (·.ops) ++ (U.blocks.getD i dBl).ops.take m
def allU (U : UnS) : List OpI := U.blocks.flatMap (·.ops)
theorem cameU_0 : cameU U 0 0 = [] := by simp [cameU]
theorem getD_of_lt {α : Type} {l : List α} {i : Nat} (d : α) (h : i < l.length) : l.getD i d = l[i] := by
  rw [List.getD_eq_getElem?_getD, List.getElem?_eq_getElem h]; rfl
theorem cameU_step {i m : Nat} (h : m < (U.blocks.getD i dBl).ops.length) : cameU U i (m + 1) = cameU U i m ++ [(U.blocks.getD i dBl).ops.getD m dOp] := by
  unfold cameU
  rw [List.append_assoc, List.take_add_one, List.getElem?_eq_getElem h, getD_of_lt dOp h]
  rfl
theorem cameU_next {i m : Nat} (hi : i < U.blocks.length) (h : (U.blocks.getD i dBl).ops.length ≤ m) : cameU U i m = cameU U (i + 1) 0 := by
  unfold cameU
  rw [List.take_of_length_le h, List.take_add_one, List.getElem?_eq_getElem hi, getD_of_lt dBl hi, List.take_zero, List.append_nil, List.flatMap_append]
  simp
theorem cameU_end {i : Nat} (h : U.blocks.length ≤ i) : cameU U i 0 = allU U := by
  unfold cameU allU
  rw [List.take_of_length_le h, List.take_zero, List.append_nil]
theorem cameU_len {i m : Nat} (hi : i < U.blocks.length) : (cameU U i m).length ≤ (allU U).length := by
  have e : allU U = (U.blocks.take i).flatMap (·.ops) ++ ((U.blocks.getD i dBl).ops ++ (U.blocks.drop (i + 1)).flatMap (·.ops)) := by
    unfold allU
    rw [← List.flatMap_cons, ← List.flatMap_append, getD_of_lt dBl hi, List.getElem_cons_drop, List.take_append_drop]
  rw [e]
  unfold cameU
  simp only [List.length_append, List.length_take]
  omega

set_option maxRecDepth 100000 in
set_option maxHeartbeats 2000000 in
theorem ops1_stops (n : Nat) (hn : 1 ≤ n) (Bn : Nat) (M : Nat → Prop) (hM : ∀ g, F g → ¬ M g) (hBn : Bn < w.heap.size) (hMB : ¬ M Bn) (hc : Blk w Bn 25 (unC U Av cv Ab cb)) (hu : UnIn F w U Av cv Ab cb) (hnb : U.blocks.length ≤ 2000) (hno : ∀ b ∈ U.blocks, b.ops.length ≤ 400) :
    SeqStopsK Fence.wide n Tryd.prog 103 #[.pointer (some ⟨Bn, 0, none⟩)] (fun x : OpU U => #[opV x.1]) (Fr M) (fun xs => xs.map (·.1) = allU U) (fun _ => True) ((allU U).length + 1) w := fun l J Jx W hW hJ hJx hY h0 => by
  have hJb : ∀ s W1 W2, J s W1 → Below W1.heap.size W1 W2 → J s W2 := fun s W1 W2 hs hb => hJ s W1 W2 none hs ⟨hb.os, hb.tape, hb.output, hb.size, fun k hk _ => hb.block k hk⟩ (fun r e => by cases e)
  have hc' := hc.below hW
  have hu' := hu.below hW
  have q5 : W.cell? ⟨Bn, 5, none⟩ = some (.slice Ab U.blocks.length cb) := (hc'.cell 5).trans rfl
  have HJB := Lib.hid hJb
  have HY := Lib.hid hY
  have HU := Lib.hid hu'
  have H0 := Lib.hid h0
  have HM := Lib.hid hM
  have HNO := Lib.hid hno
  clear hJ hJx hJb hY hu' hu h0 hc hc' hM hno
  refine callsIn_of_wp Tryd.func103 rfl trivial ?_ rfl
  simp only [Tryd.ntmps103, List.size_toArray, List.length_cons, List.length_nil, Nat.reduceAdd, Nat.reduceSub, Array.replicate_succ, Array.replicate_zero, List.push_toArray, List.append_toArray, List.nil_append, List.cons_append]
  gi_wp2
  gi_loopw [10] (fun v10 wz => ∃ i : Nat, i ≤ U.blocks.length ∧ v10 = .int .i64 i ∧ UnIn F wz U Av cv Ab cb ∧ ∃ pre : List (OpU U), pre.map (·.1) = cameU U i 0 ∧ J pre wz) (fun v10 _ => U.blocks.length - (intOf v10).toNat)
  case atStart => exact ⟨0, Nat.zero_le _, rfl, HU.out, [], by rw [cameU_0]; rfl, H0.out⟩
  case round =>
    obtain ⟨i, hi, rfl, hu, pre, hpre, hj⟩ := hrel
    rename World => wz
    by_cases hlt : i < U.blocks.length
    · have hiI : (i : Int) < U.blocks.length := by omega
      obtain ⟨vsS, hlS, hRS, hOS⟩ := hu.hr
      obtain ⟨g2, o2, rfl, hFg, d0, d1, d2, d3, d4, d5⟩ := blk_at hlS hRS hlt
      have hOr := hOS i hlt
      have hbe : U.blocks[i] = U.blocks.getD i dBl := by rw [List.getD_eq_getElem?_getD, List.getElem?_eq_getElem hlt]; rfl
      rw [hbe] at hOr
      have hsh : ∃ A cc, vsS.getD i .nilFunc = .slice A (U.blocks.getD i dBl).ops.length cc := by obtain ⟨_, A, cc, e, h, _⟩ := hOr; exact ⟨A, cc, e⟩
      obtain ⟨Ao, co, eO⟩ := hsh
      obtain ⟨no, hno⟩ : ∃ no, no = (U.blocks.getD i dBl).ops.length := ⟨_, rfl⟩
      rw [eO] at hOr
      rw [eO, ← hno] at d0
      have HX := Lib.hid (And.intro hpre hj)
      have HUZ := Lib.hid hu
      have HOR := Lib.hid hOr
      have HNE := Lib.hid hno
      clear hpre hj hu hOr hOS hRS hlS hFg hbe eO hno
      gi_wp2
      gi_loopw [17] (fun v17 wv => ∃ m : Nat, m ≤ no ∧ v17 = .int .i64 m ∧ UnIn F wv U Av cv (some ⟨g2, o2, none⟩) cb ∧ (∃ cc, Row F wv (.slice Ao (U.blocks.getD i dBl).ops.length cc) (U.blocks.getD i dBl).ops.length 7 (opsC (U.blocks.getD i dBl).ops)) ∧ ∃ pre : List (OpU U), pre.map (·.1) = cameU U i m ∧ J pre wv) (fun v17 _ => no - (intOf v17).toNat)
      case atStart => exact ⟨0, Nat.zero_le _, rfl, HUZ.out.below ((Below.refl _ _).alloc (Nat.le_refl _) _), ⟨co, HOR.out.fr (M := fun _ => False) (Fr.of_below ((Below.refl _ _).alloc (Nat.le_refl _) _)) fun _ _ => not_false⟩, pre, HX.out.1, HJB.out _ _ _ HX.out.2 ((Below.refl _ _).alloc (Nat.le_refl _) _)⟩
      case round =>
        obtain ⟨m, hm, rfl, huv, ⟨cc, hrow⟩, pre2, hpre2, hj2⟩ := hrel
        rename World => wv
        by_cases hmt : m < no
        · have hmI : (m : Int) < no := by omega
          have hmt' : m < (U.blocks.getD i dBl).ops.length := by rw [← HNE.out]; exact hmt
          have hBm : U.blocks.getD i dBl ∈ U.blocks := by rw [getD_of_lt dBl hlt]; exact List.getElem_mem _
          have hlen : no ≤ 400 := by rw [HNE.out]; exact HNO.out _ hBm
          have hrow' := hrow
          obtain ⟨_, A', c', eA, _, _, hh⟩ := hrow
          obtain ⟨g4, o4, e4A, _, lg4, hc4⟩ := hh (by omega)
          injection eA with eA1 _ eA2
          subst eA1 eA2
          subst e4A
          have hat := fun j (hj : j < 7) => opsC_at (U.blocks.getD i dBl).ops m hmt' j hj
          have hom : ∃ b ∈ U.blocks, (U.blocks.getD i dBl).ops.getD m dOp ∈ b.ops := ⟨_, hBm, by rw [getD_of_lt dOp hmt']; exact List.getElem_mem _⟩
          have hcl := cameU_len (U := U) (i := i) (m := m) hlt
          have hst := cameU_step hmt'
          obtain ⟨o, hoe⟩ : ∃ o, o = (U.blocks.getD i dBl).ops.getD m dOp := ⟨_, rfl⟩
          rw [← hoe] at hat hom hst
          have hpl : pre2.length < (allU U).length + 1 := by
            have e := congrArg List.length hpre2
            rw [List.length_map] at e
            omega
          obtain ⟨W4, hW4⟩ : ∃ W4, W4 = wv.alloc (.cells #[.int .i64 o.k, .int .i64 o.d, .int .i64 o.a, .int .i64 o.b, .int .i64 o.c, .int .i64 o.n, .int .i64 o.g] 76) := ⟨_, rfl⟩
          have hb4 : Below wv.heap.size wv W4 := by rw [hW4]; exact (Below.refl _ _).alloc (Nat.le_refl _) _
          obtain ⟨fn, tmps, assign, body, hy, hR⟩ := HY.out pre2 ⟨o, hom⟩ W4 (HJB.out _ _ _ hj2 hb4) hpl
          dsimp only [opV] at hy
          rw [hW4] at hy
          obtain ⟨k, d, a, b, c, n', g⟩ := o
          dsimp only at hy hW4
          have u0 : wv.cell? ⟨g4, o4 + m * 7, none⟩ = some (.int .i64 k) := hc4 (m * 7) _ ((hat 0 (by omega)).trans rfl)
          have u1 : wv.cell? ⟨g4, o4 + m * 7 + 1, none⟩ = some (.int .i64 d) := by rw [Nat.add_assoc]; exact hc4 (m * 7 + 1) _ ((hat 1 (by omega)).trans rfl)
          have u2 : wv.cell? ⟨g4, o4 + m * 7 + 2, none⟩ = some (.int .i64 a) := by rw [Nat.add_assoc]; exact hc4 (m * 7 + 2) _ ((hat 2 (by omega)).trans rfl)
          have u3 : wv.cell? ⟨g4, o4 + m * 7 + 3, none⟩ = some (.int .i64 b) := by rw [Nat.add_assoc]; exact hc4 (m * 7 + 3) _ ((hat 3 (by omega)).trans rfl)
          have u4 : wv.cell? ⟨g4, o4 + m * 7 + 4, none⟩ = some (.int .i64 c) := by rw [Nat.add_assoc]; exact hc4 (m * 7 + 4) _ ((hat 4 (by omega)).trans rfl)
          have u5 : wv.cell? ⟨g4, o4 + m * 7 + 5, none⟩ = some (.int .i64 n') := by rw [Nat.add_assoc]; exact hc4 (m * 7 + 5) _ ((hat 5 (by omega)).trans rfl)
          have u6 : wv.cell? ⟨g4, o4 + m * 7 + 6, none⟩ = some (.int .i64 g) := by rw [Nat.add_assoc]; exact hc4 (m * 7 + 6) _ ((hat 6 (by omega)).trans rfl)
          have HR := Lib.hid hR
          have HK := Lib.hid (And.intro huv (And.intro hrow' (And.intro hpre2 (And.intro hst hb4))))
          clear hR huv hrow' hpre2 hst hb4 hc4 hh hat hcl hj2 d0 d1 d2 d3 d4 d5
          gi_wp2
          rw [← hW4]
          refine HR.out.mono ?_
          rintro e W3 (⟨rfl, hJ3, hk3⟩ | ⟨rfl, hJx3⟩)
          · obtain ⟨k1, k2, k3, k4, k5⟩ := HK.out
            have h1 := (k1.below k5).fr hk3 HM.out
            have h2 := (k2.fr (M := fun _ => False) (Fr.of_below k5) fun _ _ => not_false).fr hk3 HM.out
            have HX3 := Lib.hid (And.intro h1 (And.intro h2 (And.intro k3 (And.intro k4 hJ3))))
            clear h1 h2 k1 k2 k3 k4 k5 hk3 hJ3
            gi_wp2
            go_roundw
            case rel => exact ⟨m + 1, by omega, by go_num, HX3.out.1, ⟨_, HX3.out.2.1⟩, pre2 ++ [⟨⟨k, d, a, b, c, n', g⟩, hom⟩], by rw [List.map_append, HX3.out.2.2.1, HX3.out.2.2.2.1]; rfl, HX3.out.2.2.2.2⟩
            case measure => simp [intOf]; omega
          · gi_wp2
            refine bodyPost_ret (results_none rfl _ _ _) rfl ?_
            exact ⟨⟨_, rfl⟩, .inr ⟨_, trivial, hJx3⟩⟩
        · obtain rfl : m = no := by omega
          have HX2 := Lib.hid (And.intro huv (And.intro hpre2 hj2))
          clear huv hrow hpre2 hj2
          gi_wp2
          go_roundw
          case rel => exact ⟨i + 1, by omega, by go_num, HX2.out.1, pre2, HX2.out.2.1.trans (cameU_next hlt (by rw [← HNE.out]; exact Nat.le_refl _)), HX2.out.2.2⟩
          case measure => simp [intOf]; omega
    · obtain rfl : i = U.blocks.length := by omega
      have HX := Lib.hid (And.intro hpre hj)
      clear hpre hj hu
      gi_wp2
      go_end0
      exact ⟨⟨_, rfl⟩, .inl ⟨pre, HX.out.1.trans (cameU_end (Nat.le_refl _)), HX.out.2⟩⟩
end Go.Proofs.YtfkjkdoloamakaaDoor
