/- Math and Do of package word at given answers; what grows twice grows. -/
import Derived.Test.YtlbfnmbodpfepaaDoorWj
namespace Go.Proofs.YtlbfnmbodpfepaaDoor
open Go.RowKit

theorem math_is (k a b n t e : Int) (hn : mN k a b = n) (ht : mT k b = t) (he : mE k = e) (w : World) :
    Calls Tryd.prog 12 #[.int .i64 k, .int .i64 a, .int .i64 b] w fun x w' => x = .returned (.tuple #[.int .i64 n, .int .i64 t, .int .i64 e]) ∧ Below w.heap.size w w' := by
  rw [← hn, ← ht, ← he]; exact math_any k a b w
theorem do_is (k d a b c n g x p y q z r v1 v2 t e : Int) (hv : doV k n (x, p) (y, q) (z, r) = (v1, v2)) (ht : doT k (x, p) (y, q) (z, r) = t) (he : doE k (x, p) (y, q) (z, r) = e) (w : World) :
    Calls Tryd.prog 13 #[.agg #[.int .i64 k, .int .i64 d, .int .i64 a, .int .i64 b, .int .i64 c, .int .i64 n, .int .i64 g], .agg #[.int .i64 x, .int .i64 p], .agg #[.int .i64 y, .int .i64 q], .agg #[.int .i64 z, .int .i64 r]] w
      fun x w' => x = .returned (.tuple #[.agg #[.int .i64 v1, .int .i64 v2], .int .i64 t, .int .i64 e]) ∧ Below w.heap.size w w' := by
  have h := do_any ⟨k, d, a, b, c, n, g⟩ (x, p) (y, q) (z, r) w
  rw [hv, ht, he] at h; exact h

theorem bel_trans {a b c : World} (h : Below a.heap.size a b) (k : Below b.heap.size b c) : Below a.heap.size a c := h.trans (k.mono h.size)
end Go.Proofs.YtlbfnmbodpfepaaDoor
