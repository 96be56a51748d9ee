/- What act of package run does, joined: the state is St.act. -/
import Derived.Test.YtfkjkdoloamakaaDoorRl
namespace Go.Proofs.YtfkjkdoloamakaaDoor
open Go.RowKit
set_option linter.unusedVariables false
variable {F : Nat → Prop} {w0 w : World} {M0 : Nat → Prop} {p : Nat} {U : UnS} {s : St}

theorem fm_reg (S : StGood U s) (r : Int) : fm (s.reg r) = true := by
  unfold St.reg
  by_cases h : r.toNat < s.regs.length
  · rw [List.getD_eq_getElem?_getD, List.getElem?_eq_getElem h]
    exact S.form _ (List.getElem_mem h)
  · rw [List.getD_eq_getElem?_getD, List.getElem?_eq_none (by omega)]
    rfl
theorem fm_reg3 (S : StGood U s) (a b c : Int) : fm3 (s.reg a) (s.reg b) (s.reg c) = true := by
  simp only [fm3, fm_reg S, Bool.and_self]
theorem ActR_to {r r' : St × Int × Bool} {f : Nat} {args : Array Value} (e : r = r') (h : Calls Tryd.prog f args w (ActR F w0 M0 p U r')) : Calls Tryd.prog f args w (ActR F w0 M0 p U r) := by rw [e]; exact h
theorem elem_in {o : OpI} (h : elemT s o = 0) : 0 ≤ (s.reg o.a).1 ∧ (s.reg o.a).1 < (s.arr o.n).length := by
  unfold elemT at h
  split at h
  · rename_i h1; exact absurd h h1
  · split at h
    · cases h
    · rename_i h2; omega
theorem act_any (S : StGood U s) (G : UnGood U) (E : EngX layP F w0 M0 w p U s) (V : Env w) (o : OpI) (hO : OpGood U o) (hk : known o.k = false) :
    Calls Tryd.prog 101 #[.pointer (some ⟨p, 0, none⟩), opV o] w (ActR F w0 M0 p U (s.act o)) := by
  obtain ⟨k, d, a, b, c, n, g⟩ := o
  have h1 := hO.k1
  have h2 := hO.k2
  simp only at h1 h2 hk
  have hc : k = 16 ∨ k = 17 ∨ k = 18 ∨ k = 19 ∨ k = 20 ∨ k = 21 ∨ k = 22 ∨ k = 25 := by
    have h' : k = 1 ∨ k = 2 ∨ k = 3 ∨ k = 4 ∨ k = 5 ∨ k = 6 ∨ k = 7 ∨ k = 8 ∨ k = 9 ∨ k = 10 ∨ k = 11 ∨ k = 12 ∨ k = 13 ∨ k = 14 ∨ k = 15 ∨ k = 16 ∨ k = 17 ∨ k = 18 ∨ k = 19 ∨ k = 20 ∨ k = 21 ∨ k = 22 ∨ k = 23 ∨ k = 24 ∨ k = 25 := by omega
    rcases h' with rfl | rfl | rfl | rfl | rfl | rfl | rfl | rfl | rfl | rfl | rfl | rfl | rfl | rfl | rfl | rfl | rfl | rfl | rfl | rfl | rfl | rfl | rfl | rfl | rfl <;> first | (exact absurd hk (by decide)) | simp
  rcases hc with rfl | rfl | rfl | rfl | rfl | rfl | rfl | rfl
  · by_cases ht : elemT s ⟨16, d, a, b, c, n, g⟩ = 0
    · obtain ⟨i0, i1⟩ := elem_in ht
      exact ActR_to (by simp [St.act, ht]) (act_load_ok S G E V d a b c n g hO ht i0 i1)
    · exact ActR_to (by simp [St.act, ht]) (act_load_trap S G E V d a b c n g hO _ rfl ht)
  · by_cases ht : elemT s ⟨17, d, a, b, c, n, g⟩ = 0
    · obtain ⟨i0, i1⟩ := elem_in ht
      exact ActR_to (by simp [St.act, ht]) (act_store_ok S G E V d a b c n g hO ht i0 i1)
    · exact ActR_to (by simp [St.act, ht]) (act_store_trap S G E V d a b c n g hO _ rfl ht)
  · exact ActR_to (by simp [St.act]) (act_fetch S G E V d a b c n g hO)
  · exact ActR_to (by simp [St.act]) (act_keep S G E V d a b c n g hO)
  · by_cases ht : (s.reg a).2 = 0
    · exact ActR_to (by simp [St.act, ht]) (act_print_ok S G E V d a b c n g hO ht (by have := S.pr; have := S.st1; omega))
    · exact ActR_to (by simp [St.act, ht]) (act_print_bad S G E V d a b c n g hO _ rfl ht)
  · by_cases ht : (s.reg a).2 = 0
    · by_cases hz : (s.reg a).1 = 0
      · exact ActR_to (by simp [St.act, ht, hz]) (act_exit_no S G E V d a b c n g hO ht hz)
      · exact ActR_to (by simp [St.act, ht, hz]) (act_exit_yes S G E V d a b c n g hO ht hz)
    · exact ActR_to (by simp [St.act, ht]) (act_exit_bad S G E V d a b c n g hO _ rfl ht)
  · by_cases ht : (s.reg a).2 = 0
    · exact ActR_to (by simp [St.act, ht]) (act_check_ok S G E V d a b c n g hO ht)
    · exact ActR_to (by simp [St.act, ht]) (act_check_bad S G E V d a b c n g hO _ rfl ht)
  · by_cases ht : elemT s ⟨25, d, a, b, c, n, g⟩ = 0
    · obtain ⟨i0, i1⟩ := elem_in ht
      exact ActR_to (by simp [St.act, ht]) (act_loads_ok S G E V d a b c n g hO ht i0 i1)
    · exact ActR_to (by simp [St.act, ht]) (act_loads_bad S G E V d a b c n g hO _ rfl ht)

theorem leave_any (S : StGood U s) (G : UnGood U) (E : EngX layP F w0 M0 w p U s) (x : EdS) (hx : EdGood U x) :
    Calls Tryd.prog 77 #[.pointer (some ⟨p, 0, none⟩), edV x] w fun e w' => e = .returned (.tuple #[]) ∧ EngX layP F w0 M0 w' p U (s.leave U x) := by
  obtain ⟨k, a, t, l⟩ := x
  have h1 := hx.k1
  have h2 := hx.k2
  have ha0 := hx.a.1
  have ha1 : a < s.regs.length := by rw [S.regs]; exact hx.a.2
  have ht := hx.t
  have hl := hx.l
  simp only at h1 h2 ha0 ha1 ht hl
  have to : ∀ {s' : St}, s.leave U ⟨k, a, t, l⟩ = s' → (Calls Tryd.prog 77 #[.pointer (some ⟨p, 0, none⟩), edV ⟨k, a, t, l⟩] w fun e w' => e = .returned (.tuple #[]) ∧ EngX layP F w0 M0 w' p U s') → Calls Tryd.prog 77 #[.pointer (some ⟨p, 0, none⟩), edV ⟨k, a, t, l⟩] w fun e w' => e = .returned (.tuple #[]) ∧ EngX layP F w0 M0 w' p U (s.leave U ⟨k, a, t, l⟩) := by
    intro s' e h; rw [e]; exact h
  by_cases k1 : k = 1
  · subst k1
    obtain ⟨t0, t1⟩ := ht (.inl rfl)
    exact to (by simp [St.leave]) (leave_jump G S E a t l ha0 ha1 t0 (by rw [S.seen]; exact t1))
  by_cases hb : (s.reg a).2 = 0
  · have hc : k = 2 ∨ k = 3 ∨ k = 4 := by omega
    rcases hc with rfl | rfl | rfl
    · obtain ⟨t0, t1⟩ := ht (.inr rfl)
      obtain ⟨l0, l1⟩ := hl rfl
      by_cases hz : (s.reg a).1 = 0
      · exact to (by simp [St.leave, hb, hz]) (leave_else G S E a t l ha0 ha1 hb hz l0 (by rw [S.seen]; exact l1))
      · exact to (by simp [St.leave, hb, hz]) (leave_to G S E a t l ha0 ha1 hb hz t0 (by rw [S.seen]; exact t1))
    · exact to (by simp [St.leave, hb]) (leave_return G S E a t l ha0 ha1 hb)
    · exact to (by simp [St.leave, hb]) (leave_throw G S E a t l ha0 ha1 hb)
  · exact to (by simp [St.leave, hb, k1]) (leave_bad G S E a t l ha0 ha1 k _ (by simpa using k1) rfl hb)
end Go.Proofs.YtfkjkdoloamakaaDoor
