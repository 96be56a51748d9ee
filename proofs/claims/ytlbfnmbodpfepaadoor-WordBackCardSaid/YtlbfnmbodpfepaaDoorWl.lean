/- The closed example of layer 1 holds: alive answers true. -/
import Derived.Test.YtlbfnmbodpfepaaDoorWv
namespace Go.Proofs.YtlbfnmbodpfepaaDoor
open Go.RowKit

set_option maxHeartbeats 1000000 in
theorem alive_any (w : World) : Calls Tryd.prog 9 #[] w fun e w' => e = .returned (.bool true) ∧ Below w.heap.size w w' := by
  go_enter Tryd.func9, Tryd.ntmps9
  go_wp2_with fail
  refine (math_is 14 (-7) 2 (-3) 0 0 (by kernel_rfl) (by kernel_rfl) (by kernel_rfl) _).mono ?_
  rintro e w1 ⟨rfl, h1⟩
  have H1 := Lib.hid h1
  clear h1
  go_wp2_with fail
  refine (math_is 15 (-7) 2 (-1) 0 0 (by kernel_rfl) (by kernel_rfl) (by kernel_rfl) _).mono ?_
  rintro e w2 ⟨rfl, h2⟩
  have H2 := Lib.hid h2
  clear h2
  go_wp2_with fail
  refine (math_is 14 (-9223372036854775808) (-1) (-9223372036854775808) 0 0 (by kernel_rfl) (by kernel_rfl) (by kernel_rfl) _).mono ?_
  rintro e w3 ⟨rfl, h3⟩
  have H3 := Lib.hid h3
  clear h3
  go_wp2_with fail
  refine (math_is 8 1 65 2 0 0 (by kernel_rfl) (by kernel_rfl) (by kernel_rfl) _).mono ?_
  rintro e w4 ⟨rfl, h4⟩
  have H4 := Lib.hid h4
  clear h4
  go_wp2_with fail
  refine (do_is 3 0 0 0 0 0 0 0 (-1) 0 (-2) 0 0 0 (-1) 0 0 (by kernel_rfl) (by kernel_rfl) (by kernel_rfl) _).mono ?_
  rintro e w5 ⟨rfl, h5⟩
  have H5 := Lib.hid h5
  clear h5
  go_wp2_with fail
  go_ret
  have b := bel_trans (bel_trans (bel_trans (bel_trans H1.out H2.out) H3.out) H4.out) H5.out
  exact ⟨rfl, b.alloc b.size _⟩

end Go.Proofs.YtlbfnmbodpfepaaDoor
