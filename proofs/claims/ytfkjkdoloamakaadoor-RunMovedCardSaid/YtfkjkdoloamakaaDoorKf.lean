/- The counts of a run, at its end. -/
import Derived.Test.YtfkjkdoloamakaaDoorKa
import Derived.Test.YtfkjkdoloamakaaDoorMe
namespace Go.Proofs.YtfkjkdoloamakaaDoor
open Go.RowKit
set_option linter.unusedVariables false
set_option linter.unusedSimpArgs false
variable {w : World} {U : UnS} {s : St} {Av Ab : Option Addr} {cv cb : Nat} {F F2 : Nat → Prop}

theorem Prof.run (G : UnGood U) : ∀ (n : Nat) (s : St), StGood U s → Prof U s → s.steps + n ≤ 1000000000000 → Prof U (St.run U n s)
  | 0, s, S, P, _ => P
  | n + 1, s, S, P, h => by
    by_cases hk : s.kind = 0
    · have e1 : St.run U (n + 1) s = St.run U n (s.step U) := if_pos hk
      rw [e1]
      exact Prof.run G n _ (S.step G (by omega)) (P.step G S.bl S.pc (by omega)) (by rw [St.step_steps]; omega)
    · rw [St.run_stop U _ s hk]; exact P
end Go.Proofs.YtfkjkdoloamakaaDoor
