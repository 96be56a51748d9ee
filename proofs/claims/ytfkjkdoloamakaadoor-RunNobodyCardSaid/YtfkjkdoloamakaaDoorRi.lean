/- What Read of package code computes: the registers that an operation reads. -/
import Derived.Test.YtfkjkdoloamakaaDoorRh
namespace Go.Proofs.YtfkjkdoloamakaaDoor
open Go.RowKit
set_option linter.unusedVariables false

theorem box_lt {w w1 : World} {o : Obj} (h : Below (w.alloc o).heap.size (w.alloc o) w1) : w.heap.size < w1.heap.size := by have := h.size; simp at this; omega
theorem pw_drew {B : Nat} {w W : World} (h : Below B w W) (n : Nat) : Below B w (W.drewN n) := ⟨h.os, h.tape, h.output, h.size, h.block⟩
section
variable {w wr w2 : World} {nq gf : Nat} {o : Obj} {l v : Value} {u : Value}
theorem app_bel (hb : Below w.heap.size w wr) (hgw : w.heap.size ≤ gf) (hg : ((wr.drewN nq).alloc o).grownBy w2 l.ownBlock) (ho : ∀ q, l.ownBlock = some q → gf < q) : Below w.heap.size w w2 :=
  ((pw_drew hb nq).alloc hb.size o).grown hg (Nat.le_trans hb.size (by simp)) (fun q hq => by have := ho q hq; omega)
theorem app_cell (hc : wr.cell? ⟨gf, 0, none⟩ = some u) (hs : gf < wr.heap.size) (hg : ((wr.drewN nq).alloc o).grownBy w2 l.ownBlock) (ho : ∀ q, l.ownBlock = some q → gf < q) : w2.cell? ⟨gf, 0, none⟩ = some u :=
  (Fr.of_grown (M := fun b => gf < b) hg ho).cell ((World.cell?_alloc_lt (wr.drewN nq) o ⟨gf, 0, none⟩ hs).trans hc) (by simp)
theorem app_lt (hs : gf < wr.heap.size) (hg : ((wr.drewN nq).alloc o).grownBy w2 l.ownBlock) : gf < w2.heap.size := by
  have := hg.size; simp at this; omega
theorem app_ob (hs : gf < wr.heap.size) (ha : v.ownBlock = l.ownBlock ∨ v.ownBlock = some ((wr.drewN nq).alloc o).heap.size) (ho : ∀ q, l.ownBlock = some q → gf < q) : ∀ q, v.ownBlock = some q → gf < q := by
  intro q hq
  rcases ha with h | h
  · exact ho q (by rw [← h]; exact hq)
  · rw [h] at hq; injection hq with hq; simp at hq; omega
end
/-- what is read of three registers, by three bits, up to the k-th -/
def rdU (x : Int × Int × Int) (a b c : Int) : Nat → List Int
  | 0 => []
  | 1 => if x.1 = 0 then [] else [a]
  | 2 => (if x.1 = 0 then [] else [a]) ++ (if x.2.1 = 0 then [] else [b])
  | _ => (if x.1 = 0 then [] else [a]) ++ (if x.2.1 = 0 then [] else [b]) ++ (if x.2.2 = 0 then [] else [c])

theorem rdU_len (x : Int × Int × Int) (a b c : Int) (j : Nat) : (rdU x a b c j).length ≤ 3 := by
  match j with
  | 0 => simp [rdU]
  | 1 => simp only [rdU]; split <;> simp
  | 2 => simp only [rdU]; split <;> split <;> simp
  | _ + 3 => simp only [rdU]; split <;> split <;> split <;> simp
theorem rdU_0 {x : Int × Int × Int} {a b c : Int} (h : x.1 = 0) : rdU x a b c 1 = rdU x a b c 0 := by simp [rdU, h]
theorem rdU_1 {x : Int × Int × Int} {a b c : Int} (h : x.2.1 = 0) : rdU x a b c 2 = rdU x a b c 1 := by simp [rdU, h]
theorem rdU_2 {x : Int × Int × Int} {a b c : Int} (h : x.2.2 = 0) : rdU x a b c 3 = rdU x a b c 2 := by simp [rdU, h]
theorem rdU_0' {x : Int × Int × Int} {a b c : Int} (h : ¬ x.1 = 0) : rdU x a b c 1 = rdU x a b c 0 ++ [a] := by simp [rdU, h]
theorem rdU_1' {x : Int × Int × Int} {a b c : Int} (h : ¬ x.2.1 = 0) : rdU x a b c 2 = rdU x a b c 1 ++ [b] := by simp [rdU, h]
theorem rdU_2' {x : Int × Int × Int} {a b c : Int} (h : ¬ x.2.2 = 0) : rdU x a b c 3 = rdU x a b c 2 ++ [c] := by simp [rdU, h]
/-- a row of numbers with one number more -/
theorem own_snoc {w : World} {base : Nat} {e : TypeId} {v : Value} {n : Nat} {l : List Int} {x : Int} (h : w.ownsRow base e 1 v (n + 1) (numV l ++ [.int .i64 x])) (hn : n = l.length) : w.ownsRow base e 1 v (l ++ [x]).length (numV (l ++ [x])) := by
  subst hn; simpa [numV] using h

set_option maxRecDepth 100000 in
set_option maxHeartbeats 2000000 in
theorem read_any (k d a b c n g : Int) (hk1 : 1 ≤ k) (hk2 : k ≤ 25) (x : Int × Int × Int) (e0 : bits .and .i64 (usesK k) 2 = x.1) (e1 : bits .and .i64 (usesK k) 4 = x.2.1) (e2 : bits .and .i64 (usesK k) 8 = x.2.2) (w : World) (V : Env w) :
    Calls Tryd.prog 104 #[.agg #[.int .i64 k, .int .i64 d, .int .i64 a, .int .i64 b, .int .i64 c, .int .i64 n, .int .i64 g]] w
      fun e w' => ∃ v, e = .returned v ∧ w'.ownsRow 0 3 1 v (rdU x a b c 3).length (numV (rdU x a b c 3)) ∧ Below w.heap.size w w' := by
  obtain ⟨us, hus⟩ : ∃ us, us = usesK k := ⟨_, rfl⟩
  rw [← hus] at e0 e1 e2
  have HV := Lib.hid V
  have HU := Lib.hid hus
  have HE0 := Lib.hid e0
  have HE1 := Lib.hid e1
  have HE2 := Lib.hid e2
  clear V hus e0 e1 e2
  go_enter Tryd.func104, Tryd.ntmps104
  go_wp2_with (go_at_call 111; refine (of_any k hk1 hk2 _ (HV.out.below ((Below.refl _ _).alloc (Nat.le_refl _) _))).mono ?_; rintro e w1 ⟨rfl, hb⟩; (rw [← HU.out]); have xc2 := cell_box hb 2 (.int .i64 a) rfl; have xc3 := cell_box hb 3 (.int .i64 b) rfl; have xc4 := cell_box hb 4 (.int .i64 c) rfl; have bcs := box_lt hb; have bne : w.heap.size ≠ w1.heap.size := (by omega); have HB := Lib.hid hb; clear hb)
  -- LOOP
  have q0 : (w1.alloc (.cells #[Value.int .i64 us, .int .i64 (classK k), .string (nameK k)] 160)).cell? ⟨w1.heap.size, 0, none⟩ = some (.int .i64 us) := ((Blk.new w1 160 #[Value.int .i64 us, .int .i64 (classK k), .string (nameK k)]).cell 0).trans rfl
  have q1 : Below w.heap.size w (w1.alloc (.cells #[Value.int .i64 us, .int .i64 (classK k), .string (nameK k)] 160)) := (bel_box HB.out).alloc (bel_box HB.out).size _
  have q2 : w1.heap.size < (w1.alloc (.cells #[Value.int .i64 us, .int .i64 (classK k), .string (nameK k)] 160)).heap.size := by simp
  obtain ⟨wo, hwo⟩ : ∃ wo, wo = w1.alloc (.cells #[Value.int .i64 us, .int .i64 (classK k), .string (nameK k)] 160) := ⟨_, rfl⟩
  rw [← hwo] at q0 q1 q2 ⊢
  have HQ0 := Lib.hid q0
  have HQ1 := Lib.hid q1
  obtain ⟨gf, hgf⟩ : ∃ gf, gf = w1.heap.size := ⟨_, rfl⟩
  rw [← hgf] at HQ0 q2 ⊢
  have hgw : w.heap.size ≤ gf := by omega
  clear q0 q1 hwo xc2 xc3 xc4 HB bne bcs hgf HV HU
  obtain ⟨i0, hi, hz0, hz1, hz2⟩ := info_parts int_info
  have i0f : ∀ (W : World), (Instr.index 178 (.agg #[.int .i64 a, .int .i64 b, .int .i64 c]) (.int .i64 0)).run Tryd.prog W = .ok (.int .i64 a) W := fun _ => by kernel_rfl
  have i1f : ∀ (W : World), (Instr.index 178 (.agg #[.int .i64 a, .int .i64 b, .int .i64 c]) (.int .i64 1)).run Tryd.prog W = .ok (.int .i64 b) W := fun _ => by kernel_rfl
  have i2f : ∀ (W : World), (Instr.index 178 (.agg #[.int .i64 a, .int .i64 b, .int .i64 c]) (.int .i64 2)).run Tryd.prog W = .ok (.int .i64 c) W := fun _ => by kernel_rfl
  go_loopw [5, 21] (fun l i wr => ∃ j : Nat, j ≤ 3 ∧ i = .int .i64 j ∧ (∃ A cc, l = .slice A (rdU x a b c j).length cc) ∧ wr.ownsRow 0 3 1 l (rdU x a b c j).length (numV (rdU x a b c j)) ∧ Below w.heap.size w wr ∧ wr.cell? ⟨gf, 0, none⟩ = some (.int .i64 us) ∧ gf < wr.heap.size ∧ ∀ q, l.ownBlock = some q → gf < q) (fun _ i _ => 3 - (intOf i).toNat)
  case atStart => exact ⟨0, by omega, rfl, ⟨_, _, rfl⟩, World.ownsRow_nil _ _ _ _, HQ1.out, HQ0.out, q2, fun q hq => by simp [Value.ownBlock] at hq⟩
  case round =>
    obtain ⟨j, hj, rfl, ⟨A, cc, rfl⟩, hown, hbw, hcf, hsz, hob⟩ := hrel
    have HO := Lib.hid hown
    have HBW := Lib.hid hbw
    have HOB := Lib.hid hob
    clear hown hbw hob
    have hj' : j = 0 ∨ j = 1 ∨ j = 2 ∨ j = 3 := by omega
    rcases hj' with rfl | rfl | rfl | rfl
    · have e0 := HE0.out
      obtain ⟨rj, hrj⟩ : ∃ rj, rj = rdU x a b c 0 := ⟨_, rfl⟩
      have hlen : rj.length ≤ 3 := by rw [hrj]; exact rdU_len ..
      rw [← hrj] at HO HOB ⊢
      by_cases hz : x.1 = 0
      · have HR := Lib.hid ((rdU_0 (a := a) (b := b) (c := c) hz).trans hrj.symm)
        rw [hz] at e0
        clear hz hrj
        go_wp2
        go_quiet (fail)
        go_wp2
        go_roundw
        case rel => exact ⟨1, by omega, by go_num, ⟨A, cc, by rw [HR.out]⟩, by rw [HR.out]; exact HO.out, pw_drew HBW.out _, hcf, hsz, HOB.out⟩
        case measure => simp [intOf]
      · have HR := Lib.hid ((rdU_0' (a := a) (b := b) (c := c) hz).trans (by rw [← hrj]))
        obtain ⟨xv, hxv⟩ : ∃ xv, xv = x.1 := ⟨_, rfl⟩
        rw [← hxv] at e0 hz
        clear hrj hxv
        go_wp2
        go_quiet (fail)
        go_wp2_with (at_builtin; refine wpList_append_own_at _ rfl (.tmp 31) (.tmp 33) 22 rfl 0 3 i0 (.int .i64 0) 1 8 Tryd.underlying22 hi hz0 hz1 hz2 rfl (by decide) (.slice A rj.length cc) rj.length (numV rj) rfl ?co ⟨wr.heap.size, 0, none⟩ 1 1 [.int .i64 a] rfl rfl ?c1 ?c2 ?c3 ?c4 ?c5 ?_; (case co => exact own_fr (M := fun _ => False) HO.out (((Fr.refl _ wr).drewN nq).alloc _) (fun _ _ => not_false)); (case c1 => exact cell_new (wr.drewN nq) _ rfl _ _); (case c2 => exact one_mem rfl); (case c3 => (unfold maxLen; omega)); (case c4 => omega); (case c5 => exact Nat.zero_le _); intro v' w2 hown1 hg1 _hx hat1; obtain ⟨A1, c1, rfl⟩ := own_shape hown1; have HO1 := Lib.hid hown1; have HG1 := Lib.hid hg1; have HA1 := Lib.hid hat1; clear hown1 hg1 hat1 _hx)
        go_roundw
        case rel => exact ⟨1, by omega, by go_num, ⟨A1, c1, by rw [HR.out]; simp⟩, by rw [HR.out]; exact own_snoc HO1.out rfl, app_bel HBW.out hgw HG1.out HOB.out, app_cell hcf hsz HG1.out HOB.out, app_lt hsz HG1.out, app_ob hsz HA1.out HOB.out⟩
        case measure => simp [intOf]
    · have e1 := HE1.out
      obtain ⟨rj, hrj⟩ : ∃ rj, rj = rdU x a b c 1 := ⟨_, rfl⟩
      have hlen : rj.length ≤ 3 := by rw [hrj]; exact rdU_len ..
      rw [← hrj] at HO HOB ⊢
      by_cases hz : x.2.1 = 0
      · have HR := Lib.hid ((rdU_1 (a := a) (b := b) (c := c) hz).trans hrj.symm)
        rw [hz] at e1
        clear hz hrj
        go_wp2
        go_quiet (fail)
        go_wp2
        go_roundw
        case rel => exact ⟨2, by omega, by go_num, ⟨A, cc, by rw [HR.out]⟩, by rw [HR.out]; exact HO.out, pw_drew HBW.out _, hcf, hsz, HOB.out⟩
        case measure => simp [intOf]
      · have HR := Lib.hid ((rdU_1' (a := a) (b := b) (c := c) hz).trans (by rw [← hrj]))
        obtain ⟨xv, hxv⟩ : ∃ xv, xv = x.2.1 := ⟨_, rfl⟩
        rw [← hxv] at e1 hz
        clear hrj hxv
        go_wp2
        go_quiet (fail)
        go_wp2_with (at_builtin; refine wpList_append_own_at _ rfl (.tmp 31) (.tmp 33) 22 rfl 0 3 i0 (.int .i64 0) 1 8 Tryd.underlying22 hi hz0 hz1 hz2 rfl (by decide) (.slice A rj.length cc) rj.length (numV rj) rfl ?co ⟨wr.heap.size, 0, none⟩ 1 1 [.int .i64 b] rfl rfl ?c1 ?c2 ?c3 ?c4 ?c5 ?_; (case co => exact own_fr (M := fun _ => False) HO.out (((Fr.refl _ wr).drewN nq).alloc _) (fun _ _ => not_false)); (case c1 => exact cell_new (wr.drewN nq) _ rfl _ _); (case c2 => exact one_mem rfl); (case c3 => (unfold maxLen; omega)); (case c4 => omega); (case c5 => exact Nat.zero_le _); intro v' w2 hown1 hg1 _hx hat1; obtain ⟨A1, c1, rfl⟩ := own_shape hown1; have HO1 := Lib.hid hown1; have HG1 := Lib.hid hg1; have HA1 := Lib.hid hat1; clear hown1 hg1 hat1 _hx)
        go_roundw
        case rel => exact ⟨2, by omega, by go_num, ⟨A1, c1, by rw [HR.out]; simp⟩, by rw [HR.out]; exact own_snoc HO1.out rfl, app_bel HBW.out hgw HG1.out HOB.out, app_cell hcf hsz HG1.out HOB.out, app_lt hsz HG1.out, app_ob hsz HA1.out HOB.out⟩
        case measure => simp [intOf]
    · have e2 := HE2.out
      obtain ⟨rj, hrj⟩ : ∃ rj, rj = rdU x a b c 2 := ⟨_, rfl⟩
      have hlen : rj.length ≤ 3 := by rw [hrj]; exact rdU_len ..
      rw [← hrj] at HO HOB ⊢
      by_cases hz : x.2.2 = 0
      · have HR := Lib.hid ((rdU_2 (a := a) (b := b) (c := c) hz).trans hrj.symm)
        rw [hz] at e2
        clear hz hrj
        go_wp2
        go_quiet (fail)
        go_wp2
        go_roundw
        case rel => exact ⟨3, by omega, by go_num, ⟨A, cc, by rw [HR.out]⟩, by rw [HR.out]; exact HO.out, pw_drew HBW.out _, hcf, hsz, HOB.out⟩
        case measure => simp [intOf]
      · have HR := Lib.hid ((rdU_2' (a := a) (b := b) (c := c) hz).trans (by rw [← hrj]))
        obtain ⟨xv, hxv⟩ : ∃ xv, xv = x.2.2 := ⟨_, rfl⟩
        rw [← hxv] at e2 hz
        clear hrj hxv
        go_wp2
        go_quiet (fail)
        go_wp2_with (at_builtin; refine wpList_append_own_at _ rfl (.tmp 31) (.tmp 33) 22 rfl 0 3 i0 (.int .i64 0) 1 8 Tryd.underlying22 hi hz0 hz1 hz2 rfl (by decide) (.slice A rj.length cc) rj.length (numV rj) rfl ?co ⟨wr.heap.size, 0, none⟩ 1 1 [.int .i64 c] rfl rfl ?c1 ?c2 ?c3 ?c4 ?c5 ?_; (case co => exact own_fr (M := fun _ => False) HO.out (((Fr.refl _ wr).drewN nq).alloc _) (fun _ _ => not_false)); (case c1 => exact cell_new (wr.drewN nq) _ rfl _ _); (case c2 => exact one_mem rfl); (case c3 => (unfold maxLen; omega)); (case c4 => omega); (case c5 => exact Nat.zero_le _); intro v' w2 hown1 hg1 _hx hat1; obtain ⟨A1, c1, rfl⟩ := own_shape hown1; have HO1 := Lib.hid hown1; have HG1 := Lib.hid hg1; have HA1 := Lib.hid hat1; clear hown1 hg1 hat1 _hx)
        go_roundw
        case rel => exact ⟨3, by omega, by go_num, ⟨A1, c1, by rw [HR.out]; simp⟩, by rw [HR.out]; exact own_snoc HO1.out rfl, app_bel HBW.out hgw HG1.out HOB.out, app_cell hcf hsz HG1.out HOB.out, app_lt hsz HG1.out, app_ob hsz HA1.out HOB.out⟩
        case measure => simp [intOf]
    · go_wp2
      go_ret
      exact ⟨_, rfl, HO.out, HBW.out⟩
end Go.Proofs.YtfkjkdoloamakaaDoor
