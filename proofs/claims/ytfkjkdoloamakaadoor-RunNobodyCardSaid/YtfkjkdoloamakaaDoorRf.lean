/- The table of operations' forms; what of, Read, EndReads and bad compute. -/
import Derived.Test.YtfkjkdoloamakaaDoorRe
import Derived.LoopTactic
namespace Go.Proofs.YtfkjkdoloamakaaDoor
open Go.RowKit
set_option linter.unusedVariables false
variable {F : Nat → Prop} {w0 w : World} {M0 : Nat → Prop} {p : Nat} {U : UnS} {s : St}

def formsL : List (Int × Int × List UInt8) := [(17, 0, [99, 111, 110, 115, 116]), (3, 0, [109, 111, 118, 101]), (7, 0, [97, 100, 100]), (7, 0, [115, 117, 98]), (7, 0, [97, 110, 100]), (7, 0, [111, 114]), (7, 0, [120, 111, 114]), (7, 0, [115, 104, 108]), (7, 0, [115, 104, 114]), (7, 0, [108, 101, 115, 115]), (7, 0, [101, 113, 117, 97, 108]), (15, 0, [112, 105, 99, 107]), (7, 1, [109, 117, 108]), (7, 1, [100, 105, 118]), (7, 1, [114, 101, 109]), (35, 2, [108, 111, 97, 100]), (38, 2, [115, 116, 111, 114, 101]), (65, 2, [102, 101, 116, 99, 104]), (66, 2, [107, 101, 101, 112]), (2, 3, [112, 114, 105, 110, 116]), (130, 3, [101, 120, 105, 116]), (2, 3, [99, 104, 101, 99, 107]), (7, 1, [100, 105, 118, 115]), (7, 1, [114, 101, 109, 115]), (35, 2, [108, 111, 97, 100, 115])]
/-- what a kind uses, its class, its name -/
def usesK (k : Int) : Int := (formsL.getD (k - 1).toNat (0, 0, [])).1
def classK (k : Int) : Int := (formsL.getD (k - 1).toNat (0, 0, [])).2.1
def nameK (k : Int) : ByteArray := ⟨(formsL.getD (k - 1).toNat (0, 0, [])).2.2.toArray⟩
def formC : List (Int × Int × List UInt8) → List Value
  | [] => []
  | (u, c, n) :: r => .int .i64 u :: .int .i64 c :: .string ⟨n.toArray⟩ :: formC r
/-- the table lies where it was laid -/
def Env (w : World) : Prop := w.var? Tryd.prog "bireme/code.forms" = some (formC formsL).toArray
theorem gForms : Tryd.prog.globalNamed "bireme/code.forms" = some 0 := by kernel_rfl
theorem formC_at : ∀ (l : List (Int × Int × List UInt8)) (i : Nat), i < l.length → (formC l)[i * 3]? = some (.int .i64 (l.getD i (0, 0, [])).1) ∧ (formC l)[i * 3 + 1]? = some (.int .i64 (l.getD i (0, 0, [])).2.1) ∧ (formC l)[i * 3 + 2]? = some (.string ⟨(l.getD i (0, 0, [])).2.2.toArray⟩)
  | (u, c, n) :: r, 0, _ => ⟨rfl, rfl, rfl⟩
  | (u, c, n) :: r, i + 1, h => by
    have e0 : (i + 1) * 3 = i * 3 + 1 + 1 + 1 := by omega
    have e1 : (i + 1) * 3 + 1 = i * 3 + 1 + 1 + 1 + 1 := by omega
    have e2 : (i + 1) * 3 + 2 = i * 3 + 2 + 1 + 1 + 1 := by omega
    rw [e2, e0]
    simp only [formC, List.getElem?_cons_succ, List.getD_cons_succ]
    exact formC_at r i (by simpa using h)
theorem env_at {w : World} (V : Env w) {k : Int} (h1 : 1 ≤ k) (h2 : k ≤ 25) : w.cell? ⟨0, (k.toNat - 1) * 3, none⟩ = some (.int .i64 (usesK k)) ∧ w.cell? ⟨0, (k.toNat - 1) * 3 + 1, none⟩ = some (.int .i64 (classK k)) ∧ w.cell? ⟨0, (k.toNat - 1) * 3 + 2, none⟩ = some (.string (nameK k)) := by
  have hl : formsL.length = 25 := rfl
  obtain ⟨a, b, c⟩ := formC_at formsL (k - 1).toNat (by omega)
  have ek : k.toNat - 1 = (k - 1).toNat := by omega
  rw [ek]
  have e := fun i => World.var?_cell gForms V i
  simp only [List.getElem?_toArray] at e
  exact ⟨(e _).trans a, (e _).trans b, (e _).trans c⟩
theorem lt_of_var {P : Program} {W : World} {n : String} {g : Nat} {cs : Array Value} (hg : P.globalNamed n = some g) (h : W.var? P n = some cs) : g < W.heap.size := by
  unfold World.var? at h
  rw [hg] at h
  rcases Nat.lt_or_ge g W.heap.size with h' | h'
  · exact h'
  · simp [Array.getElem?_eq_none h'] at h
theorem Env.fr {M : Nat → Prop} {w w' : World} (V : Env w) (hf : Fr M w w') (hM : ¬ M 0) : Env w' := by
  have hlt := lt_of_var gForms V
  have hb := hf.block _ hlt hM
  unfold Env World.var? at *
  rw [gForms] at V ⊢
  simp only [Option.bind_some] at V ⊢
  rw [hb]; exact V
theorem Env.below {w w' : World} (V : Env w) (hb : Below w.heap.size w w') : Env w' := V.fr (M := fun _ => False) (Fr.of_below hb) not_false

theorem of_any (k : Int) (h1 : 1 ≤ k) (h2 : k ≤ 25) (w : World) (V : Env w) :
    Calls Tryd.prog 111 #[.int .i64 k] w fun e w' => e = .returned (.tuple #[.agg #[.int .i64 (usesK k), .int .i64 (classK k), .string (nameK k)], .bool true]) ∧ Below w.heap.size w w' := by
  obtain ⟨c0, c1, c2⟩ := env_at V h1 h2
  have hlt := lt_of_var gForms V
  obtain ⟨us, hus⟩ : ∃ us, us = usesK k := ⟨_, rfl⟩
  obtain ⟨cs, hcs⟩ : ∃ cs, cs = classK k := ⟨_, rfl⟩
  obtain ⟨nm, hnm⟩ : ∃ nm, nm = nameK k := ⟨_, rfl⟩
  rw [← hus] at c0; rw [← hcs] at c1; rw [← hnm] at c2
  rw [← hus, ← hcs, ← hnm]
  clear hus hcs hnm V
  have hne : w.heap.size ≠ 0 := by omega
  go_enter Tryd.func111, Tryd.ntmps111
  go_wp2
  refine bodyPost_ret (v := .tuple #[.agg #[.int .i64 us, .int .i64 cs, .string nm], .bool true]) (by simp [results, Tryd.results111, go_sem]) rfl ⟨rfl, ?_⟩
  go_grown
theorem of_none (k : Int) (h : k < 1 ∨ 25 < k) (w : World) :
    Calls Tryd.prog 111 #[.int .i64 k] w fun e w' => e = .returned (.tuple #[.agg #[.int .i64 0, .int .i64 0, .string ⟨#[]⟩], .bool false]) ∧ Below w.heap.size w w' := by
  rcases h with h | h
  · go_enter Tryd.func111, Tryd.ntmps111
    go_wp2
    refine bodyPost_ret (v := .tuple #[.agg #[.int .i64 0, .int .i64 0, .string ⟨#[]⟩], .bool false]) (by simp [results, Tryd.results111, go_sem]) rfl ⟨rfl, ?_⟩
    go_grown
  · have h' : ¬ k < 1 := by omega
    go_enter Tryd.func111, Tryd.ntmps111
    go_wp2
    refine bodyPost_ret (v := .tuple #[.agg #[.int .i64 0, .int .i64 0, .string ⟨#[]⟩], .bool false]) (by simp [results, Tryd.results111, go_sem]) rfl ⟨rfl, ?_⟩
    go_grown

theorem blk_new (W : World) {n : Nat} (hn : n = W.heap.size) (t : TypeId) (cs : Array Value) : Blk (W.alloc (.cells cs t)) n t cs := by subst hn; exact Blk.new W t cs
theorem endReads_jump (a t l : Int) (w : World) :
    Calls Tryd.prog 99 #[.agg #[.int .i64 1, .int .i64 a, .int .i64 t, .int .i64 l]] w fun e w' => e = .returned (.slice none 0 0) ∧ Below w.heap.size w w' := by
  go_enter Tryd.func99, Tryd.ntmps99
  go_wp2
  go_ret
  exact ⟨rfl, by go_grown⟩
theorem endReads_other (k a t l : Int) (hk : (k == 1) = false) (w : World) :
    Calls Tryd.prog 99 #[.agg #[.int .i64 k, .int .i64 a, .int .i64 t, .int .i64 l]] w fun e w' => ∃ g, e = .returned (.slice (some ⟨g, 0, none⟩) 1 1) ∧ w.heap.size ≤ g ∧ Blk w' g 3 #[.int .i64 a] ∧ Below w.heap.size w w' := by
  go_enter Tryd.func99, Tryd.ntmps99
  go_wp2
  go_ret
  refine ⟨_, rfl, ?_, ?_, ?_⟩
  · simp
  · exact blk_new _ (by simp) _ _
  · go_grown

/-- the first poison of a list of registers -/
theorem bad_any {L : EngL} (E : Eng layP F w p U s L) (A : Option Addr) (c : Nat) (l : List Int) (hl : 0 < l.length → ∃ g, A = some ⟨g, 0, none⟩ ∧ ∀ j (h : j < l.length), w.cell? ⟨g, j, none⟩ = some (.int .i64 l[j])) (hr : ∀ r ∈ l, 0 ≤ r ∧ r < s.regs.length) (hlen : l.length ≤ 8) :
    Calls Tryd.prog 98 #[.pointer (some ⟨p, 0, none⟩), .slice A l.length c] w fun e w' => e = .returned (.int .i64 (badOf s.regs l)) ∧ w = w' := by
  have h6 := P6 E
  have hb := fun r h0 h1 => reg1 E (r := r) h0 h1
  have HB := Lib.hid hb
  have HL := Lib.hid hl
  have HR := Lib.hid hr
  clear hb hl hr E
  go_enter Tryd.func98, Tryd.ntmps98
  go_wp2
  go_loop [10] (fun i => ∃ k : Nat, k ≤ l.length ∧ i = .int .i64 k ∧ badOf s.regs l = badOf s.regs (l.drop k)) (fun i => l.length - (intOf i).toNat)
  case atStart => exact ⟨0, Nat.zero_le _, rfl, rfl⟩
  case round =>
    obtain ⟨k, hk, rfl, hbd⟩ := hrel
    by_cases hlt : k < l.length
    · obtain ⟨g, hA, hc⟩ := HL.out (by omega)
      have hck := hc k hlt
      obtain ⟨h0, h1⟩ := HR.out l[k] (List.getElem_mem hlt)
      have hbk := HB.out l[k] h0 h1
      rw [List.drop_eq_getElem_cons hlt] at hbd
      obtain ⟨r, hre⟩ : ∃ r, r = l[k] := ⟨_, rfl⟩
      rw [← hre] at hck h0 h1 hbk hbd
      obtain ⟨b, hbe⟩ : ∃ b, b = (s.reg r).2 := ⟨_, rfl⟩
      rw [← hbe] at hbk
      have hs : badOf s.regs (r :: l.drop (k + 1)) = if b ≠ 0 then b else badOf s.regs (l.drop (k + 1)) := by rw [hbe]; rfl
      rw [hs] at hbd
      subst hA
      clear hs hbe hre hc
      by_cases hz : b = 0
      · subst hz
        have HBD := Lib.hid (hbd.trans (if_neg (fun h => h rfl)))
        clear hbd
        go_wp2
        go_round
        case rel => exact ⟨k + 1, by omega, by go_num, HBD.out⟩
        case measure => simp [intOf]; omega
      · have HBD := Lib.hid (hbd.trans (if_pos hz))
        clear hbd
        go_wp2
        go_ret
        exact ⟨by rw [HBD.out]; rfl, rfl⟩
    · have HBD := Lib.hid (show badOf s.regs l = 0 by rw [hbd, List.drop_of_length_le (by omega)]; rfl)
      clear hbd
      go_wp2
      go_ret
      exact ⟨by rw [HBD.out]; rfl, rfl⟩
end Go.Proofs.YtfkjkdoloamakaaDoor
