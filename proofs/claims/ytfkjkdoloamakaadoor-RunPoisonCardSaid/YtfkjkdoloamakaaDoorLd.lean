/- Cut, of the specification, walked: a unit's beginning in memory of its own. -/
import Derived.Test.YtfkjkdoloamakaaDoorMg
namespace Go.Proofs.YtfkjkdoloamakaaDoor
open Go.RowKit
set_option linter.unusedVariables false
set_option linter.unusedSimpArgs false
variable {w : World} {F : Nat → Prop} {U : UnS} {Av Ab : Option Addr} {cv cb : Nat}

set_option maxRecDepth 100000 in
set_option maxHeartbeats 8000000 in
theorem cut_any (hu : UnIn F w U Av cv Ab cb) (nb n : Int) (hnb : 0 ≤ nb) (hn0 : 0 ≤ n) (hn1 : n ≤ 1099511627776) (hz1 : U.sizes.length ≤ 17592186044416) (hz2 : U.blocks.length * 64 ≤ 140737488355328) (hz3 : ∀ b ∈ U.blocks, b.ops.length * 56 ≤ 140737488355328) :
    Calls Tryd.prog 38 #[unV U Av cv Ab cb, .int .i64 nb, .int .i64 n] w fun x w' => ∃ A c A2 c2, x = .returned (unV (cutU U nb n) A c A2 c2) ∧ UnIn (fun g => w.heap.size ≤ g ∧ g < w'.heap.size) w' (cutU U nb n) A c A2 c2 ∧ Below w.heap.size w w' := by
  obtain ⟨hs, ⟨vs, hl, hR, hO⟩, hF⟩ := hu
  have hcs : U.sizes.length ≤ cv := by obtain ⟨_, A', c', e1, h1, _⟩ := hs; injection e1 with _ _ e2; subst e2; exact h1
  obtain ⟨i0, hi, hz0, hy1, hy2⟩ := info_parts inf_int
  have HS := Lib.hid hs
  have HL := Lib.hid hl
  have HR := Lib.hid hR
  have HO := Lib.hid hO
  have HF := Lib.hid hF
  have HZ3 := Lib.hid hz3
  obtain ⟨W, hW⟩ : ∃ W, W = ((w.alloc (.cells (unC U Av cv Ab cb) 25)).alloc (.cells #[.slice none 0 0, .int .i64 0, .int .i64 0, .int .i64 0, .int .i64 0, .slice none 0 0] 25)).alloc (.cells (unC U Av cv Ab cb) 25) := ⟨_, rfl⟩
  have hb0 : Below w.heap.size w W := by rw [hW]; exact (((Below.refl _ _).alloc (Nat.le_refl _) _).alloc (by simp) _).alloc (by simp; omega) _
  have b0 : Blk W w.heap.size 25 (unC U Av cv Ab cb) := by rw [hW]; exact ((blk_new w rfl _ _).alloc _).alloc _
  have b1 : Blk W (w.heap.size + 1) 25 #[.slice none 0 0, .int .i64 0, .int .i64 0, .int .i64 0, .int .i64 0, .slice none 0 0] := by rw [hW]; exact (blk_new _ (by simp) _ _).alloc _
  have b2 : Blk W (w.heap.size + 2) 25 (unC U Av cv Ab cb) := by rw [hW]; exact blk_new _ (by simp) _ _
  have hz : W.heap.size = w.heap.size + 3 := by rw [hW]; simp
  have HW := Lib.hid hW
  have H0 := Lib.hid hb0
  have HB0 := Lib.hid b0
  have HB1 := Lib.hid b1
  have HB2 := Lib.hid b2
  have HZ := Lib.hid hz
  clear hs hl hR hO hF hz3 hW hb0 b0 b1 b2 hz
  unfold unV unC at *
  go_enter Tryd.func38, Tryd.ntmps38
  go_upto_region 2 with fail
  rw [← HW.out]
  have c00 : W.cell? ⟨w.heap.size, 0, none⟩ = some (.slice Av U.sizes.length cv) := (HB0.out.cell 0).trans rfl
  have c05 : W.cell? ⟨w.heap.size, 5, none⟩ = some (.slice Ab U.blocks.length cb) := (HB0.out.cell 5).trans rfl
  have l0 := HB0.out.lt
  have n0 : w.heap.size ≠ W.heap.size := by omega
  have n0' := n0.symm
  go_cut [12] (fun v12 wc => ∃ A1 c1, wc.ownsRow (w.heap.size + 3) 3 1 (.slice A1 (U.sizes.take 17).length c1) (U.sizes.take 17).length (numV (U.sizes.take 17)) ∧ Below w.heap.size w wc ∧ Blk wc w.heap.size 25 #[.slice Av U.sizes.length cv, .int .i64 U.params, .int .i64 U.regs, .int .i64 U.code, .int .i64 U.spill, .slice Ab U.blocks.length cb] ∧ Blk wc (w.heap.size + 1) 25 #[.slice none 0 0, .int .i64 0, .int .i64 0, .int .i64 0, .int .i64 0, .slice none 0 0] ∧ Blk wc (w.heap.size + 2) 25 #[.slice A1 (U.sizes.take 17).length c1, .int .i64 U.params, .int .i64 U.regs, .int .i64 U.code, .int .i64 U.spill, .slice Ab U.blocks.length cb] ∧ w.heap.size + 3 ≤ wc.heap.size)
  case first =>
    have key : ∀ (m : Nat) (v' : Value) (w1 : World), (U.sizes.take 17).length = m → w1.ownsRow W.heap.size 3 1 v' (0 + m) ([] ++ numV (U.sizes.take 17)) → (W.alloc (.cells #[] 3)).grownBy w1 (Value.slice (some ⟨W.heap.size, 0, none⟩) 0 0).ownBlock → ∃ A1 c1, v' = .slice A1 (0 + m) c1 ∧ (∃ u, w1.cell? ⟨w.heap.size + 1 + 1, 0, none⟩ = some u) ∧ w1.frozen? ⟨w.heap.size + 1 + 1, 0, none⟩ = false ∧ ((w1.setCell ⟨w.heap.size + 1 + 1, 0, none⟩ (.slice A1 (U.sizes.take 17).length c1)).ownsRow (w.heap.size + 3) 3 1 (.slice A1 (U.sizes.take 17).length c1) (U.sizes.take 17).length (numV (U.sizes.take 17)) ∧ Below w.heap.size w (w1.setCell ⟨w.heap.size + 1 + 1, 0, none⟩ (.slice A1 (U.sizes.take 17).length c1)) ∧ Blk (w1.setCell ⟨w.heap.size + 1 + 1, 0, none⟩ (.slice A1 (U.sizes.take 17).length c1)) w.heap.size 25 #[.slice Av U.sizes.length cv, .int .i64 U.params, .int .i64 U.regs, .int .i64 U.code, .int .i64 U.spill, .slice Ab U.blocks.length cb] ∧ Blk (w1.setCell ⟨w.heap.size + 1 + 1, 0, none⟩ (.slice A1 (U.sizes.take 17).length c1)) (w.heap.size + 1) 25 #[.slice none 0 0, .int .i64 0, .int .i64 0, .int .i64 0, .int .i64 0, .slice none 0 0] ∧ Blk (w1.setCell ⟨w.heap.size + 1 + 1, 0, none⟩ (.slice A1 (U.sizes.take 17).length c1)) (w.heap.size + 2) 25 #[.slice A1 (U.sizes.take 17).length c1, .int .i64 U.params, .int .i64 U.regs, .int .i64 U.code, .int .i64 U.spill, .slice Ab U.blocks.length cb] ∧ w.heap.size + 3 ≤ (w1.setCell ⟨w.heap.size + 1 + 1, 0, none⟩ (.slice A1 (U.sizes.take 17).length c1)).heap.size) := by
      intro m v' w1 hm hown hg
      subst hm
      rw [Nat.zero_add, List.nil_append] at hown
      rw [Nat.zero_add]
      obtain ⟨A1, c1, rfl⟩ := own_shape hown
      have hb1 : Below W.heap.size W w1 := ((Below.refl _ W).alloc (Nat.le_refl _) _).grown hg (by simp) (fun k hk => by injection hk with hk; exact Nat.le_of_eq hk)
      have n2 := HB2.out.below hb1
      have hs1 := hb1.size
      have hz := HZ.out
      refine ⟨A1, c1, rfl, ⟨_, (n2.cell 0).trans rfl⟩, n2.frozen 0, ?_, ?_, ?_, ?_, ?_, ?_⟩
      · exact own_setb (a := ⟨w.heap.size + 1 + 1, 0, none⟩) (by show w.heap.size + 1 + 1 < w.heap.size + 3; omega) _ (own_le (by omega) hown)
      · exact (H0.out.trans (hb1.mono (by omega))).setCell (by show w.heap.size ≤ w.heap.size + 1 + 1; omega) _
      · exact (HB0.out.below hb1).far (by show w.heap.size ≠ w.heap.size + 1 + 1; omega) _
      · exact (HB1.out.below hb1).far (by show w.heap.size + 1 ≠ w.heap.size + 1 + 1; omega) _
      · exact n2.set_ 0 _
      · simp; omega
    have KEY := Lib.hid key
    clear key
    by_cases h17 : (U.sizes.length : Int) ≤ 17
    · have e17 : U.sizes.take 17 = U.sizes := List.take_of_length_le (by omega)
      have HE := Lib.hid e17
      have HLN : Hid ((U.sizes.take 17).length = U.sizes.length) := Lib.hid (by rw [e17])
      have HSR := Lib.hid (HS.out.fr (M := fun _ => False) ((Fr.of_below H0.out).then_ ((Fr.refl _ W).alloc (.cells #[] 3))) (fun _ _ => not_false))
      clear e17
      go_wp2_with (at_builtin; refine wpList_append_row rfl _ _ 22 rfl W.heap.size 3 i0 (.int .i64 0) 1 8 Tryd.underlying22 hi hz0 hy1 hy2 rfl (by decide) _ _ _ rfl (own_empty W _ (Nat.le_refl _) _ _) Av U.sizes.length cv (numV U.sizes) rfl HSR.out num_one ?q1 ?q2 ?q3 ?_; (case q1 => (unfold maxLen; omega)); (case q2 => omega); (case q3 => simp); intro v' w1 hown hg _; obtain ⟨A1, c1, rfl, ⟨u0, z0⟩, y0, hkey⟩ := KEY.out _ _ _ HLN.out (by rw [HE.out]; exact hown) hg; have HK := Lib.hid hkey; clear hown hg hkey)
      go_meet
      have h := HK.out
      rw [HLN.out] at h ⊢
      exact ⟨A1, c1, by simpa using h⟩
    · have h17' : (17 : Int) < U.sizes.length := by omega
      have HLN : Hid ((U.sizes.take 17).length = 17) := Lib.hid (by simp; omega)
      have HSR := Lib.hid ((HS.out.fr (M := fun _ => False) ((Fr.of_below H0.out).then_ ((Fr.refl _ W).alloc (.cells #[] 3))) (fun _ _ => not_false)).take (k := 17) (by omega))
      have HE : Hid ((numV U.sizes).take (17 * 1) = numV (U.sizes.take 17)) := Lib.hid (by simp [numV, List.map_take])
      go_wp2_with (at_builtin; refine wpList_append_row rfl _ _ 22 rfl W.heap.size 3 i0 (.int .i64 0) 1 8 Tryd.underlying22 hi hz0 hy1 hy2 rfl (by decide) _ _ _ rfl (own_empty W _ (Nat.le_refl _) _ _) Av 17 cv ((numV U.sizes).take (17 * 1)) rfl HSR.out (fun u hu => num_one u (List.mem_of_mem_take hu)) ?q1 ?q2 ?q3 ?_; (case q1 => (unfold maxLen; omega)); (case q2 => omega); (case q3 => simp); intro v' w1 hown hg _; obtain ⟨A1, c1, rfl, ⟨u0, z0⟩, y0, hkey⟩ := KEY.out _ _ _ HLN.out (by rw [← HE.out]; exact hown) hg; have HK := Lib.hid hkey; clear hown hg hkey)
      go_meet
      have h := HK.out
      rw [HLN.out] at h ⊢
      exact ⟨A1, c1, by simpa using h⟩
  case rest =>
    obtain ⟨A1, c1, hsz, hb, hB0, hB1, hB2, hwz⟩ := hcut
    have y5 : wc.cell? ⟨w.heap.size + 1 + 1, 5, none⟩ = some (.slice Ab U.blocks.length cb) := (hB2.cell 5).trans rfl
    have f5 := hB2.frozen 5
    clear c00 c05 n0 n0' l0
    obtain ⟨T, hT⟩ : ∃ T, T = U.blocks.take nb.toNat := ⟨_, rfl⟩
    have hTl : T.length ≤ U.blocks.length := by rw [hT]; simp; omega
    have hTn : (T.length : Int) ≤ nb := by rw [hT]; simp; omega
    have hTe : (T.length : Int) = nb ∨ T.length = U.blocks.length := by rw [hT]; simp; omega
    have HT := Lib.hid hT
    have hC0 : CutS w (wc.setCell ⟨w.heap.size + 2, 5, none⟩ (.slice none 0 0)) U (cutB (T.take 0) n) (.slice A1 (U.sizes.take 17).length c1) (.slice none 0 0) [] := by
      refine ⟨hB2.set_ 5 _, own_setb (Nat.lt_succ_self _) _ hsz, World.ownsRow_nil _ _ _ _, rfl, fun i hi => by simp [cutB] at hi⟩
    have HC0 := Lib.hid hC0
    have HB := Lib.hid hb
    have HBB0 := Lib.hid hB0
    have HBB1 := Lib.hid hB1
    have HWZ := Lib.hid hwz
    clear hT hC0 hb hB0 hB1 hB2 hwz hsz
    obtain ⟨vsz, hvsz⟩ : ∃ v, v = Value.slice A1 (U.sizes.take 17).length c1 := ⟨_, rfl⟩
    rw [← hvsz] at HC0
    clear hvsz
    go_wp2
    go_loopw [2, 8] (fun v2 v8 wr => ∃ (k : Nat) (left : Int) (vb : Value) (vs : List Value), k ≤ T.length ∧ v8 = .int .i64 k ∧ v2 = .int .i64 left ∧ 0 ≤ left ∧ left ≤ n ∧ Hid (left = leftB (T.take k) n) ∧ CutS w wr U (cutB (T.take k) n) vsz vb vs ∧ Below w.heap.size w wr ∧ Blk wr w.heap.size 25 #[.slice Av U.sizes.length cv, .int .i64 U.params, .int .i64 U.regs, .int .i64 U.code, .int .i64 U.spill, .slice Ab U.blocks.length cb] ∧ Blk wr (w.heap.size + 1) 25 #[.slice none 0 0, .int .i64 0, .int .i64 0, .int .i64 0, .int .i64 0, .slice none 0 0] ∧ w.heap.size + 3 ≤ wr.heap.size) (fun _ v8 _ => T.length - (intOf v8).toNat)
    case atStart =>
      refine ⟨0, n, .slice none 0 0, [], Nat.zero_le _, rfl, rfl, hn0, Int.le_refl _, Lib.hid rfl, HC0.out, HB.out.setCell (by show w.heap.size ≤ w.heap.size + 1 + 1; omega) _, HBB0.out.far (by show w.heap.size ≠ w.heap.size + 1 + 1; omega) _, HBB1.out.far (by show w.heap.size + 1 ≠ w.heap.size + 1 + 1; omega) _, by simp; exact HWZ.out⟩
    case round =>
      obtain ⟨k, left, vb, vs', hk, rfl, rfl, hl0, hl1, HLF, hC, hb, hB0, hB1, hwz⟩ := hrel
      have c5 : wr.cell? ⟨w.heap.size, 5, none⟩ = some (.slice Ab U.blocks.length cb) := (hB0.cell 5).trans rfl
      by_cases hlt : k < T.length
      · have hkU : k < U.blocks.length := by omega
        have hkN : (k : Int) < nb := by omega
        have hkU' : (k : Int) < U.blocks.length := by omega
        have hk0 : (0 : Int) ≤ k := by omega
        have hTk : T.getD k dBl = U.blocks.getD k dBl := by
          rw [List.getD_eq_getElem?_getD, List.getD_eq_getElem?_getD, HT.out, List.getElem?_take]
          rw [if_pos (by omega)]
        have hTs : T.take (k + 1) = T.take k ++ [U.blocks.getD k dBl] := by
          rw [List.take_succ_eq_append_getElem hlt, ← hTk, List.getD_eq_getElem?_getD, List.getElem?_eq_getElem hlt]; rfl
        have hRr := HR.out.fr (M := fun _ => False) (Fr.of_below hb) (fun _ _ => not_false)
        obtain ⟨g, o, rfl, hFg, d0, d1, d2, d3, d4, d5⟩ := blk_at HL.out hRr hkU
        have hOr := (HO.out k hkU).fr (M := fun _ => False) (Fr.of_below hb) (fun _ _ => not_false)
        have hbe : U.blocks[k] = U.blocks.getD k dBl := by rw [List.getD_eq_getElem?_getD, List.getElem?_eq_getElem hkU]; rfl
        rw [hbe] at hOr
        have hn56 := HZ3.out _ (getD_mem (d := dBl) hkU)
        obtain ⟨b, hbb⟩ : ∃ b, b = U.blocks.getD k dBl := ⟨_, rfl⟩
        rw [← hbb] at d1 d2 d3 d4 d5 hOr hTs hn56
        clear hbb hbe hTk hRr
        obtain ⟨bops, ⟨ek, ea, et, el⟩, ct⟩ := b
        simp only at d1 d2 d3 d4 d5 hOr hn56
        have hsh : ∃ A cc, vs.getD k .nilFunc = .slice A bops.length cc ∧ bops.length ≤ cc := by obtain ⟨_, A, cc, e, h, _⟩ := hOr; exact ⟨A, cc, e, h⟩
        obtain ⟨A, cc, eO, hcc⟩ := hsh
        rw [eO] at d0 hOr
        have HOr := Lib.hid hOr
        have HTS := Lib.hid hTs
        have HC := Lib.hid hC
        have HBR := Lib.hid hb
        have HB0r := Lib.hid hB0
        have HB1r := Lib.hid hB1
        have lg : g < wr.heap.size := lt_cell d0
        have lB : w.heap.size < wr.heap.size := by omega
        have ng : g ≠ wr.heap.size := by omega
        have ng' := ng.symm
        have nB : w.heap.size ≠ wr.heap.size := by omega
        have nB' := nB.symm
        have ng1 : g ≠ wr.heap.size + 1 := by omega
        have ng1' := ng1.symm
        have nB1 : w.heap.size ≠ wr.heap.size + 1 := by omega
        have nB1' := nB1.symm
        have lg1 : g < wr.heap.size + 1 := by omega
        have lB1 : w.heap.size < wr.heap.size + 1 := by omega
        obtain ⟨i7, hi7, hi70, hi71, hi72⟩ := info_parts inf_op
        obtain ⟨i6, hi6, hi60, hi61, hi62⟩ := info_parts inf_blk
        clear hOr hTs hC hb hB0 hB1 eO hFg
        obtain ⟨nn, hnn⟩ : ∃ nn, nn = bops.length := ⟨_, rfl⟩
        rw [← hnn] at d0 hcc hn56 HOr
        have HNN := Lib.hid hnn
        clear hnn
        have x1 : (if left < 0 then (0 : Int) else left) = left := if_neg (by omega)
        have x3 : (0 : Int) ≤ nn := by omega
        have x4 : (nn : Int) ≤ cc := by omega
        have e7 : (cutOne ⟨bops, ⟨ek, ea, et, el⟩, ct⟩ left).ops.length = min left.toNat nn := by rw [cutOne_len, HNN.out]
        obtain ⟨m, hm0⟩ : ∃ m, m = min left.toNat nn := ⟨_, rfl⟩
        have HMM : Hid ((cutOne ⟨bops, ⟨ek, ea, et, el⟩, ct⟩ left).ops.length = m) := Lib.hid (by rw [e7, hm0])
        have hm1 : (m : Int) ≤ left := by omega
        have hm2 : m ≤ nn := by omega
        have hm3 : (m : Int) = nn ∨ (m : Int) = left := by omega
        have HM0 := Lib.hid hm0
        clear e7 hm0
        go_upto_region 8 with fail
        go_cut [40] from 23 to 71 (fun v40 wx => ∃ A2 c2, wx.ownsRow wr.heap.size 76 7 (.slice A2 m c2) m (opsC (cutOne ⟨bops, ⟨ek, ea, et, el⟩, ct⟩ left).ops) ∧ Below wr.heap.size wr wx ∧ Blk wx wr.heap.size 73 #[.slice A2 m c2, .int .i64 ek, .int .i64 ea, .int .i64 et, .int .i64 el, .int .i64 ct])
        case first =>
          by_cases hm : (nn : Int) ≤ left
          · have hmn : m = nn := by omega
            have HC1 : Hid ((cutOne ⟨bops, ⟨ek, ea, et, el⟩, ct⟩ left).ops = bops) := Lib.hid (by show bops.take left.toNat = bops; exact List.take_of_length_le (by rw [← HNN.out]; omega))
            subst hmn
            have x2 : (if left < (m : Int) then left else (m : Int)) = m := if_neg (by omega)
            have HOE : Hid ((((wr.alloc (.cells #[.slice A m cc, .int .i64 ek, .int .i64 ea, .int .i64 et, .int .i64 el, .int .i64 ct] 73)).alloc (.cells #[] 76)).drew).ownsRow wr.heap.size 76 7 (.slice (some ⟨wr.heap.size + 1, 0, none⟩) 0 0) 0 []) := Lib.hid (by have h := own_empty (wr.alloc (.cells #[.slice A m cc, .int .i64 ek, .int .i64 ea, .int .i64 et, .int .i64 el, .int .i64 ct] 73)) wr.heap.size (by simp) 76 7; rw [World.size_alloc] at h; exact h)
            have HRE : Hid (Row (fun _ => True) (((wr.alloc (.cells #[.slice A m cc, .int .i64 ek, .int .i64 ea, .int .i64 et, .int .i64 el, .int .i64 ct] 73)).alloc (.cells #[] 76)).drew) (.slice A m cc) m 7 (opsC bops)) := Lib.hid ((HOr.out.mono fun _ _ _ => trivial).fr (M := fun _ => False) (((Fr.refl _ wr).alloc _).alloc _).drew' fun _ _ => not_false)
            go_wp2
            go_region_held3 (fun w' => w'.cell? ⟨w.heap.size, 5, none⟩ = some (.slice (some ⟨g, o, none⟩) U.blocks.length cb) ∧ w'.cell? ⟨g, o + k * 6, none⟩ = some (.slice A m cc)) (first | exact ⟨k0, k1⟩ | (go_keep; done))
              (first | (refine step_append_row rfl (.tmp 40) (.tmp 57) 69 rfl wr.heap.size 76 i7 (.agg #[.int .i64 0, .int .i64 0, .int .i64 0, .int .i64 0, .int .i64 0, .int .i64 0, .int .i64 0]) 7 56 Tryd.underlying69 hi7 hi70 hi71 hi72 rfl (by decide) (.slice (some ⟨wr.heap.size + 1, 0, none⟩) 0 0) 0 [] (by rfl) HOE.out A m cc (opsC bops) (by rfl) HRE.out (opsC_one _) ?q1 ?q2 ?q3 ?_; (case q1 => (unfold maxLen; omega)); (case q2 => omega); (case q3 => (simp; omega)); intro v' w1 hown hg _; obtain ⟨A2, c2, rfl⟩ := own_shape hown; have hb1 : Below wr.heap.size wr w1 := Below.grown (bel_drew (((Below.refl _ wr).alloc (Nat.le_refl _) _).alloc ?qa _)) hg ?qb ?qc; (case qa => simp); (case qb => (simp; omega)); (case qc => exact fun k' hk' => (by injection hk' with hk'; simp only at hk'; omega)); have nbx := Blk.fr (w := ((wr.alloc (.cells #[.slice A m cc, .int .i64 ek, .int .i64 ea, .int .i64 et, .int .i64 el, .int .i64 ct] 73)).alloc (.cells #[] 76)).drew) (M := fun i => some (wr.heap.size + 1) = some i) (((blk_new wr rfl 73 #[.slice A m cc, .int .i64 ek, .int .i64 ea, .int .i64 et, .int .i64 el, .int .i64 ct]).alloc _).drew) (Fr.of_grown hg ?qd) ?qe; (case qd => exact fun _ h => h); (case qe => exact fun h => (by injection h with h; omega)); have k0 := (hb1.cell (p := ⟨w.heap.size, 5, none⟩) lB).trans c5; have k1 := (hb1.cell (p := ⟨g, o + k * 6, none⟩) lg).trans d0; have z0 : w1.cell? ⟨wr.heap.size, 0, none⟩ = some (.slice A m cc) := (nbx.cell 0).trans rfl; have z1 : w1.cell? ⟨wr.heap.size, 1, none⟩ = some (.int .i64 ek) := (nbx.cell 1).trans rfl; have z2 : w1.cell? ⟨wr.heap.size, 2, none⟩ = some (.int .i64 ea) := (nbx.cell 2).trans rfl; have z3 : w1.cell? ⟨wr.heap.size, 3, none⟩ = some (.int .i64 et) := (nbx.cell 3).trans rfl; have z4 : w1.cell? ⟨wr.heap.size, 4, none⟩ = some (.int .i64 el) := (nbx.cell 4).trans rfl; have z5 : w1.cell? ⟨wr.heap.size, 5, none⟩ = some (.int .i64 ct) := (nbx.cell 5).trans rfl; have y0 := nbx.frozen 0; have l1 := nbx.lt; have HO1 := Lib.hid hown; have HB1w := Lib.hid hb1; have HNB := Lib.hid nbx; clear hown hg hb1 nbx))
            all_goals
              go_wp2
              go_meet
              refine ⟨A2, c2, ?_, ?_, ?_⟩
              · have h := HO1.out
                rw [Nat.zero_add, List.nil_append] at h
                rw [HC1.out]
                exact own_fr (M := fun b => b = wr.heap.size) h (Fr.one _ _ _ _) (fun b hb e => by subst e; exact own_blk_ne h HNB.out (by decide) hb)
              · exact HB1w.out.setCell (Nat.le_refl _) _
              · exact HNB.out.set_ 0 _
          · obtain rfl : left = (m : Int) := by omega
            have hmn : (m : Int) < nn := by omega
            have HC1 : Hid (opsC (cutOne ⟨bops, ⟨ek, ea, et, el⟩, ct⟩ (m : Int)).ops = (opsC bops).take (m * 7)) := Lib.hid (by show opsC (bops.take ((m : Int)).toNat) = _; rw [opsC_take]; rfl)
            have x2 : (if (m : Int) < (nn : Int) then (m : Int) else (nn : Int)) = m := if_pos (by omega)
            have x5 : (0 : Int) ≤ m := by omega
            have x6 : (m : Int) ≤ cc := by omega
            have HOE : Hid ((((wr.alloc (.cells #[.slice A nn cc, .int .i64 ek, .int .i64 ea, .int .i64 et, .int .i64 el, .int .i64 ct] 73)).alloc (.cells #[] 76)).drew).ownsRow wr.heap.size 76 7 (.slice (some ⟨wr.heap.size + 1, 0, none⟩) 0 0) 0 []) := Lib.hid (by have h := own_empty (wr.alloc (.cells #[.slice A nn cc, .int .i64 ek, .int .i64 ea, .int .i64 et, .int .i64 el, .int .i64 ct] 73)) wr.heap.size (by simp) 76 7; rw [World.size_alloc] at h; exact h)
            have HRE : Hid (Row (fun _ => True) (((wr.alloc (.cells #[.slice A nn cc, .int .i64 ek, .int .i64 ea, .int .i64 et, .int .i64 el, .int .i64 ct] 73)).alloc (.cells #[] 76)).drew) (.slice A m cc) m 7 ((opsC bops).take (m * 7))) := Lib.hid (((HOr.out.take hm2).mono fun _ _ _ => trivial).fr (M := fun _ => False) (((Fr.refl _ wr).alloc _).alloc _).drew' fun _ _ => not_false)
            go_wp2
            go_region_held3 (fun w' => w'.cell? ⟨w.heap.size, 5, none⟩ = some (.slice (some ⟨g, o, none⟩) U.blocks.length cb) ∧ w'.cell? ⟨g, o + k * 6, none⟩ = some (.slice A nn cc)) (first | exact ⟨k0, k1⟩ | (go_keep; done))
              (first | (refine step_append_row rfl (.tmp 40) (.tmp 57) 69 rfl wr.heap.size 76 i7 (.agg #[.int .i64 0, .int .i64 0, .int .i64 0, .int .i64 0, .int .i64 0, .int .i64 0, .int .i64 0]) 7 56 Tryd.underlying69 hi7 hi70 hi71 hi72 rfl (by decide) (.slice (some ⟨wr.heap.size + 1, 0, none⟩) 0 0) 0 [] (by rfl) HOE.out A m cc ((opsC bops).take (m * 7)) (by rfl) HRE.out (fun u hu => opsC_one _ u (List.mem_of_mem_take hu)) ?q1 ?q2 ?q3 ?_; (case q1 => (unfold maxLen; omega)); (case q2 => omega); (case q3 => (simp; omega)); intro v' w1 hown hg _; obtain ⟨A2, c2, rfl⟩ := own_shape hown; have hb1 : Below wr.heap.size wr w1 := Below.grown (bel_drew (((Below.refl _ wr).alloc (Nat.le_refl _) _).alloc ?qa _)) hg ?qb ?qc; (case qa => simp); (case qb => (simp; omega)); (case qc => exact fun k' hk' => (by injection hk' with hk'; simp only at hk'; omega)); have nbx := Blk.fr (w := ((wr.alloc (.cells #[.slice A nn cc, .int .i64 ek, .int .i64 ea, .int .i64 et, .int .i64 el, .int .i64 ct] 73)).alloc (.cells #[] 76)).drew) (M := fun i => some (wr.heap.size + 1) = some i) (((blk_new wr rfl 73 #[.slice A nn cc, .int .i64 ek, .int .i64 ea, .int .i64 et, .int .i64 el, .int .i64 ct]).alloc _).drew) (Fr.of_grown hg ?qd) ?qe; (case qd => exact fun _ h => h); (case qe => exact fun h => (by injection h with h; omega)); have k0 := (hb1.cell (p := ⟨w.heap.size, 5, none⟩) lB).trans c5; have k1 := (hb1.cell (p := ⟨g, o + k * 6, none⟩) lg).trans d0; have z0 : w1.cell? ⟨wr.heap.size, 0, none⟩ = some (.slice A nn cc) := (nbx.cell 0).trans rfl; have z1 : w1.cell? ⟨wr.heap.size, 1, none⟩ = some (.int .i64 ek) := (nbx.cell 1).trans rfl; have z2 : w1.cell? ⟨wr.heap.size, 2, none⟩ = some (.int .i64 ea) := (nbx.cell 2).trans rfl; have z3 : w1.cell? ⟨wr.heap.size, 3, none⟩ = some (.int .i64 et) := (nbx.cell 3).trans rfl; have z4 : w1.cell? ⟨wr.heap.size, 4, none⟩ = some (.int .i64 el) := (nbx.cell 4).trans rfl; have z5 : w1.cell? ⟨wr.heap.size, 5, none⟩ = some (.int .i64 ct) := (nbx.cell 5).trans rfl; have y0 := nbx.frozen 0; have l1 := nbx.lt; have HO1 := Lib.hid hown; have HB1w := Lib.hid hb1; have HNB := Lib.hid nbx; clear hown hg hb1 nbx))
            all_goals
              go_wp2
              go_meet
              refine ⟨A2, c2, ?_, ?_, ?_⟩
              · have h := HO1.out
                rw [Nat.zero_add, List.nil_append] at h
                rw [HC1.out]
                exact own_fr (M := fun b => b = wr.heap.size) h (Fr.one _ _ _ _) (fun b hb e => by subst e; exact own_blk_ne h HNB.out (by decide) hb)
              · exact HB1w.out.setCell (Nat.le_refl _) _
              · exact HNB.out.set_ 0 _
        case rest =>
          obtain ⟨A2, c2, ho2, hbw, hbk⟩ := hcut
          obtain ⟨A3, c3, rfl⟩ := own_shape HC.out.own
          have hlen : (cutB (T.take k) n).length = k := by rw [cutB_length, List.length_take]; omega
          have hwx := hbw.size
          have hv : Blk wc (w.heap.size + 2) 25 #[vsz, .int .i64 U.params, .int .i64 U.regs, .int .i64 U.code, .int .i64 U.spill, .slice A3 k c3] := by have h := HC.out.out; rw [hlen] at h; exact h.fr (M := fun _ => False) (Fr.of_below hbw) not_false
          have v5 : wc.cell? ⟨w.heap.size + 1 + 1, 5, none⟩ = some (.slice A3 k c3) := (hv.cell 5).trans rfl
          have fv5 : wc.frozen? ⟨w.heap.size + 1 + 1, 5, none⟩ = false := hv.frozen 5
          have z0 : wc.cell? ⟨wr.heap.size, 0, none⟩ = some (.slice A2 m c2) := (hbk.cell 0).trans rfl
          have z1 : wc.cell? ⟨wr.heap.size, 1, none⟩ = some (.int .i64 ek) := (hbk.cell 1).trans rfl
          have z2 : wc.cell? ⟨wr.heap.size, 2, none⟩ = some (.int .i64 ea) := (hbk.cell 2).trans rfl
          have z3 : wc.cell? ⟨wr.heap.size, 3, none⟩ = some (.int .i64 et) := (hbk.cell 3).trans rfl
          have z4 : wc.cell? ⟨wr.heap.size, 4, none⟩ = some (.int .i64 el) := (hbk.cell 4).trans rfl
          have z5 : wc.cell? ⟨wr.heap.size, 5, none⟩ = some (.int .i64 ct) := (hbk.cell 5).trans rfl
          have HLE : Hid ((cutB (T.take k) n).length = k) := Lib.hid hlen
          have HOW : Hid ((wc.alloc (.cells #[.slice A2 m c2, .int .i64 ek, .int .i64 ea, .int .i64 et, .int .i64 el, .int .i64 ct] 73)).ownsRow (w.heap.size + 3) 73 6 (.slice A3 k c3) k (blsC vs' (cutB (T.take k) n))) := Lib.hid (by have h := HC.out.own; rw [hlen] at h; exact own_fr (own_below h hbw) (M := fun _ => False) ((Fr.refl _ wc).alloc _) (fun _ _ => not_false))
          have HO2 := Lib.hid ho2
          have HV := Lib.hid hv
          have HBW := Lib.hid hbw
          have lx : w.heap.size + 3 ≤ wc.heap.size + 1 := by omega
          have lxb := HBR.out.trans (hbw.mono hwz |>.mono (Nat.le_trans (Nat.le_add_right _ 3) (Nat.le_refl _)))
          have hU64 : (k + 1) * 64 ≤ 140737488355328 := by omega
          have HLX := Lib.hid lxb
          clear ho2 hbw hbk hv hlen d0 d1 d2 d3 d4 d5 lg lB ng ng' nB nB' ng1 ng1' nB1 nB1' lg1 lB1 x1 c5 lxb hcc hn56
          go_wp2_with (at_builtin; go_must (refine wpList_append_own_at _ rfl _ _ 23 rfl (w.heap.size + 3) 73 i6 (.agg #[.slice none 0 0, .int .i64 0, .int .i64 0, .int .i64 0, .int .i64 0, .int .i64 0]) 6 64 Tryd.underlying23 hi6 hi60 hi61 hi62 rfl (by decide) (.slice A3 k c3) k _ rfl HOW.out ⟨wc.heap.size, 0, none⟩ 1 1 [.slice A2 m c2, .int .i64 ek, .int .i64 ea, .int .i64 et, .int .i64 el, .int .i64 ct] rfl rfl ?c1 ?c2 ?c3 ?c4 ?c5 ?_; (case c1 => exact cells_new _ _ rfl _ _); (case c2 => (intro u hu; simp only [List.mem_cons, List.not_mem_nil, or_false] at hu; rcases hu with rfl | rfl | rfl | rfl | rfl | rfl <;> rfl)); (case c3 => (unfold maxLen; omega)); (case c4 => exact hU64); (case c5 => (simp; omega)); intro v' w2 hown1 hg1 _hx hat1; obtain ⟨A4, c4, rfl⟩ := own_shape hown1; have v2 := Blk.fr (HV.out.alloc _) (Fr.of_grown (M := fun i => (Value.slice A3 k c3).ownBlock = some i) hg1 fun _ hk => hk) (own_blk_ne HOW.out (HV.out.alloc _) (by decide)); have y5 : w2.cell? ⟨w.heap.size + 1 + 1, 5, none⟩ = some (.slice A3 k c3) := (v2.cell 5).trans rfl; have fy5 : w2.frozen? ⟨w.heap.size + 1 + 1, 5, none⟩ = false := v2.frozen 5; clear v2; have HO1 := Lib.hid hown1; have HG1 := Lib.hid hg1; clear hown1 hg1 hat1 _hx))
          go_roundw
          case rel =>
            have hbw1 := HBW.out.alloc HBW.out.size (.cells #[.slice A2 m c2, .int .i64 ek, .int .i64 ea, .int .i64 et, .int .i64 el, .int .i64 ct] 73)
            have hf2 := Fr.of_grown (M := fun i => (Value.slice A3 k c3).ownBlock = some i) HG1.out fun _ hk => hk
            have n0 := HB0r.out.fr (M := fun _ => False) (Fr.of_below hbw1) not_false
            have n1 := HB1r.out.fr (M := fun _ => False) (Fr.of_below hbw1) not_false
            refine ⟨k + 1, left - m, .slice A4 (k + 1) c4, vs' ++ [.slice A2 m c2], by omega, by go_num, rfl, by omega, by omega, Lib.hid ?_, ?_, ?_, ?_, ?_, ?_⟩
            · rw [HTS.out, leftB_snoc, ← HLF.out, HMM.out]
            · rw [HTS.out, cutB_snoc, ← HLF.out]
              refine CutS.next HC.out hbw1 ?_ (by rw [HLE.out]; exact HG1.out) ?_
              · rw [HMM.out]
                exact own_fr (own_le hwz HO2.out) (M := fun _ => False) ((Fr.refl _ _).alloc _) (fun _ _ => not_false)
              · rw [HLE.out]
                exact HO1.out
            · exact ((HLX.out.alloc HLX.out.size _).grown HG1.out (by simp; omega) (fun g hg => by have := HOW.out.lt g hg; omega)).setCell (by show w.heap.size ≤ w.heap.size + 1 + 1; omega) _
            · exact (n0.fr hf2 (own_blk_ne HOW.out n0 (by decide))).far (by show w.heap.size ≠ w.heap.size + 1 + 1; omega) _
            · exact (n1.fr hf2 (own_blk_ne HOW.out n1 (by decide))).far (by show w.heap.size + 1 ≠ w.heap.size + 1 + 1; omega) _
            · have h1 := HG1.out.size
              simp at h1 ⊢
              omega
          case measure => simp [intOf]; omega
      · obtain rfl : k = T.length := by omega
        obtain ⟨A, c, A2, c2, rfl, rfl, hun⟩ := (show CutS w wr U (cutB (U.blocks.take nb.toNat) n) vsz vb vs' by have h := hC; rw [List.take_length, HT.out] at h; exact h).un
        have e2 : (cutU U nb n).sizes.length = (U.sizes.take 17).length := rfl
        have e3 : (cutU U nb n).blocks.length = (cutB (U.blocks.take nb.toNat) n).length := rfl
        obtain ⟨n1, hn1'⟩ : ∃ m, m = (cutU U nb n).sizes.length := ⟨_, rfl⟩
        obtain ⟨n2, hn2'⟩ : ∃ m, m = (cutU U nb n).blocks.length := ⟨_, rfl⟩
        have r0 : wr.cell? ⟨w.heap.size + 1 + 1, 0, none⟩ = some (.slice A n1 c) := by rw [hn1']; exact (hC.out.cell 0).trans rfl
        have r1 : wr.cell? ⟨w.heap.size + 1 + 1, 1, none⟩ = some (.int .i64 U.params) := (hC.out.cell 1).trans rfl
        have r2 : wr.cell? ⟨w.heap.size + 1 + 1, 2, none⟩ = some (.int .i64 U.regs) := (hC.out.cell 2).trans rfl
        have r3 : wr.cell? ⟨w.heap.size + 1 + 1, 3, none⟩ = some (.int .i64 U.code) := (hC.out.cell 3).trans rfl
        have r4 : wr.cell? ⟨w.heap.size + 1 + 1, 4, none⟩ = some (.int .i64 U.spill) := (hC.out.cell 4).trans rfl
        have r5 : wr.cell? ⟨w.heap.size + 1 + 1, 5, none⟩ = some (.slice A2 n2 c2) := by rw [hn2']; exact (hC.out.cell 5).trans rfl
        have s0 : wr.cell? ⟨w.heap.size + 1, 0, none⟩ = some (.slice none 0 0) := (hB1.cell 0).trans rfl
        have s1 : wr.cell? ⟨w.heap.size + 1, 1, none⟩ = some (.int .i64 0) := (hB1.cell 1).trans rfl
        have s2 : wr.cell? ⟨w.heap.size + 1, 2, none⟩ = some (.int .i64 0) := (hB1.cell 2).trans rfl
        have s3 : wr.cell? ⟨w.heap.size + 1, 3, none⟩ = some (.int .i64 0) := (hB1.cell 3).trans rfl
        have s4 : wr.cell? ⟨w.heap.size + 1, 4, none⟩ = some (.int .i64 0) := (hB1.cell 4).trans rfl
        have s5 : wr.cell? ⟨w.heap.size + 1, 5, none⟩ = some (.slice none 0 0) := (hB1.cell 5).trans rfl
        have t0 := hB1.frozen 0
        have t1 := hB1.frozen 1
        have t2 := hB1.frozen 2
        have t3 := hB1.frozen 3
        have t4 := hB1.frozen 4
        have t5 := hB1.frozen 5
        have HN1 := Lib.hid hn1'
        have HN2 := Lib.hid hn2'
        have HU := Lib.hid hun
        have HBR := Lib.hid hb
        clear hC hB0 hB1 hb hun hn1' hn2' e2 e3 HLF
        have fin : ∀ w', Fr (fun i => i = w.heap.size + 1) wr w' → UnIn (fun g => w.heap.size ≤ g ∧ g < w'.heap.size) w' (cutU U nb n) A c A2 c2 ∧ Below w.heap.size w w' := fun w' hf => by
          refine ⟨(HU.out.fr hf (fun g hg e => by have e' : g = w.heap.size + 1 := e; omega)).mono (fun g hg hlt => ⟨by omega, hlt⟩) (fun g hg => hg.2), HBR.out.trans (hf.below (fun b hb => by have e' : b = w.heap.size + 1 := hb; omega) HBR.out.size)⟩
        have FIN := Lib.hid fin
        clear fin
        rcases hTe with hTe | hTe
        · have h1 : ¬ (T.length : Int) < nb := by omega
          have hTb : T.length < U.blocks.length ∨ T.length = U.blocks.length := by omega
          clear hTe
          rcases hTb with h2 | h2
          · have h3 : (T.length : Int) < U.blocks.length := by omega
            go_wp2
            refine bodyPost_ret (v := .agg #[.slice A n1 c, .int .i64 U.params, .int .i64 U.regs, .int .i64 U.code, .int .i64 U.spill, .slice A2 n2 c2]) (by simp [results, Tryd.results38, go_sem, *]) rfl ⟨_, _, _, _, by rw [HN1.out, HN2.out]; rfl, FIN.out _ ?_⟩
            (repeat' (first | with_reducible refine frS ?_ | with_reducible exact Fr.refl _ _))
          · have h3 : ¬ T.length < U.blocks.length := by omega
            clear h2
            go_wp2
            refine bodyPost_ret (v := .agg #[.slice A n1 c, .int .i64 U.params, .int .i64 U.regs, .int .i64 U.code, .int .i64 U.spill, .slice A2 n2 c2]) (by simp [results, Tryd.results38, go_sem, *]) rfl ⟨_, _, _, _, by rw [HN1.out, HN2.out]; rfl, FIN.out _ ?_⟩
            (repeat' (first | with_reducible refine frS ?_ | with_reducible exact Fr.refl _ _))
        · have h1 : ¬ T.length < U.blocks.length := by omega
          have HTE := Lib.hid hTe
          clear hTe
          go_wp2
          refine bodyPost_ret (v := .agg #[.slice A n1 c, .int .i64 U.params, .int .i64 U.regs, .int .i64 U.code, .int .i64 U.spill, .slice A2 n2 c2]) (by simp [results, Tryd.results38, go_sem, *]) rfl ⟨_, _, _, _, by rw [HN1.out, HN2.out]; rfl, FIN.out _ ?_⟩
          (repeat' (first | with_reducible refine frS ?_ | with_reducible exact Fr.refl _ _))
end Go.Proofs.YtfkjkdoloamakaaDoor
