/- The closed example of layer 1 holds (alive), and the walks of the laws WordMaths, WordRing, WordDivides, WordShifts. -/
import Derived.Test.YtlbfnmbodpfepaaWk
namespace Go.Proofs.Ytlbfnmbodpfepaa
open Go.RowKit

theorem math_is (k a b n t e : Int) (hn : mN k a b = n) (ht : mT k b = t) (he : mE k = e) (w : World) :
    Calls Try.prog 9 #[.int .i64 k, .int .i64 a, .int .i64 b] w fun x w' => x = .returned (.tuple #[.int .i64 n, .int .i64 t, .int .i64 e]) ∧ Below w.heap.size w w' := by
  rw [← hn, ← ht, ← he]; exact math_any k a b w
theorem do_is (k d a b c n g x p y q z r v1 v2 t e : Int) (hv : doV k n (x, p) (y, q) (z, r) = (v1, v2)) (ht : doT k (x, p) (y, q) (z, r) = t) (he : doE k (x, p) (y, q) (z, r) = e) (w : World) :
    Calls Try.prog 12 #[.agg #[.int .i64 k, .int .i64 d, .int .i64 a, .int .i64 b, .int .i64 c, .int .i64 n, .int .i64 g], .agg #[.int .i64 x, .int .i64 p], .agg #[.int .i64 y, .int .i64 q], .agg #[.int .i64 z, .int .i64 r]] w
      fun x w' => x = .returned (.tuple #[.agg #[.int .i64 v1, .int .i64 v2], .int .i64 t, .int .i64 e]) ∧ Below w.heap.size w w' := by
  have h := do_any ⟨k, d, a, b, c, n, g⟩ (x, p) (y, q) (z, r) w
  rw [hv, ht, he] at h; exact h

theorem bel_trans {a b c : World} (h : Below a.heap.size a b) (k : Below b.heap.size b c) : Below a.heap.size a c := h.trans (k.mono h.size)

set_option maxHeartbeats 1000000 in
theorem alive_any (w : World) : Calls Try.prog 11 #[] w fun e w' => e = .returned (.bool true) ∧ Below w.heap.size w w' := by
  go_enter Try.func11, Try.ntmps11
  go_wp2_with fail
  refine (math_is 14 (-7) 2 (-3) 0 0 (by kernel_rfl) (by kernel_rfl) (by kernel_rfl) _).mono ?_
  rintro e w1 ⟨rfl, h1⟩
  have H1 := Lib.hid h1
  clear h1
  go_wp2_with fail
  refine (math_is 15 (-7) 2 (-1) 0 0 (by kernel_rfl) (by kernel_rfl) (by kernel_rfl) _).mono ?_
  rintro e w2 ⟨rfl, h2⟩
  have H2 := Lib.hid h2
  clear h2
  go_wp2_with fail
  refine (math_is 14 (-9223372036854775808) (-1) (-9223372036854775808) 0 0 (by kernel_rfl) (by kernel_rfl) (by kernel_rfl) _).mono ?_
  rintro e w3 ⟨rfl, h3⟩
  have H3 := Lib.hid h3
  clear h3
  go_wp2_with fail
  refine (math_is 8 1 65 2 0 0 (by kernel_rfl) (by kernel_rfl) (by kernel_rfl) _).mono ?_
  rintro e w4 ⟨rfl, h4⟩
  have H4 := Lib.hid h4
  clear h4
  go_wp2_with fail
  refine (do_is 3 0 0 0 0 0 0 0 (-1) 0 (-2) 0 0 0 (-1) 0 0 (by kernel_rfl) (by kernel_rfl) (by kernel_rfl) _).mono ?_
  rintro e w5 ⟨rfl, h5⟩
  have H5 := Lib.hid h5
  clear h5
  go_wp2_with fail
  go_ret
  have b := bel_trans (bel_trans (bel_trans (bel_trans H1.out H2.out) H3.out) H4.out) H5.out
  exact ⟨rfl, b.alloc b.size _⟩

end Go.Proofs.Ytlbfnmbodpfepaa
