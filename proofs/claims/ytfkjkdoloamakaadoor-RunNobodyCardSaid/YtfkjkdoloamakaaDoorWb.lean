/- What table, plain, divided and Math of package word compute. -/
import Derived.Test.YtfkjkdoloamakaaDoorWa
namespace Go.Proofs.YtfkjkdoloamakaaDoor
open Go.RowKit


theorem plain_any (g : Nat) (w : World) : Calls Tryd.prog 121 #[.func (.func g) #[] #[]] w fun e w' => e = .returned (.func (.func 136) #[] #[.pointer (some ⟨w.heap.size, 0, none⟩)]) ∧ w' = w.alloc (.cells #[.func (.func g) #[] #[]] 181) := by
  have hmf := mk_fn
  go_enter Tryd.func121, Tryd.ntmps121
  go_wp2
  go_ret
  exact ⟨rfl, rfl⟩
theorem divided_any (g : Nat) (w : World) : Calls Tryd.prog 133 #[.func (.func g) #[] #[]] w fun e w' => e = .returned (.func (.func 137) #[] #[.pointer (some ⟨w.heap.size, 0, none⟩)]) ∧ w' = w.alloc (.cells #[.func (.func g) #[] #[]] 181) := by
  have hmf := mk_fn
  go_enter Tryd.func133, Tryd.ntmps133
  go_wp2
  go_ret
  exact ⟨rfl, rfl⟩

/-- table's closure for a kind, and the function in it -/
def tb (k : Int) : Option (Nat × Nat) :=
  if k = 3 then some (136, 122) else if k = 4 then some (136, 123)
  else if k = 5 then some (136, 124) else if k = 6 then some (136, 125)
  else if k = 7 then some (136, 126) else if k = 8 then some (136, 127)
  else if k = 9 then some (136, 128) else if k = 10 then some (136, 129)
  else if k = 11 then some (136, 131) else if k = 13 then some (136, 132)
  else if k = 14 then some (137, 134) else if k = 15 then some (137, 135)
  else none

/-- the closure's value and the world behind table -/
def tbV (k : Int) (w : World) : Value := match tb k with | some (o, _) => .func (.func o) #[] #[.pointer (some ⟨w.heap.size, 0, none⟩)] | none => .nilFunc
def tbW (k : Int) (w : World) : World := match tb k with | some (_, i) => w.alloc (.cells #[.func (.func i) #[] #[]] 181) | none => w

theorem table_any (k : Int) (w : World) : Calls Tryd.prog 116 #[.int .i64 k] w fun e w' => e = .returned (tbV k w) ∧ w' = tbW k w := by
  by_cases h3 : k = 3
  · subst h3
    go_enter Tryd.func116, Tryd.ntmps116
    go_wp2_with (go_at_call 121; refine (plain_any _ _).mono ?_; rintro e w' ⟨rfl, rfl⟩)
    go_ret
    exact ⟨rfl, rfl⟩
  by_cases h4 : k = 4
  · subst h4
    go_enter Tryd.func116, Tryd.ntmps116
    go_wp2_with (go_at_call 121; refine (plain_any _ _).mono ?_; rintro e w' ⟨rfl, rfl⟩)
    go_ret
    exact ⟨rfl, rfl⟩
  by_cases h5 : k = 5
  · subst h5
    go_enter Tryd.func116, Tryd.ntmps116
    go_wp2_with (go_at_call 121; refine (plain_any _ _).mono ?_; rintro e w' ⟨rfl, rfl⟩)
    go_ret
    exact ⟨rfl, rfl⟩
  by_cases h6 : k = 6
  · subst h6
    go_enter Tryd.func116, Tryd.ntmps116
    go_wp2_with (go_at_call 121; refine (plain_any _ _).mono ?_; rintro e w' ⟨rfl, rfl⟩)
    go_ret
    exact ⟨rfl, rfl⟩
  by_cases h7 : k = 7
  · subst h7
    go_enter Tryd.func116, Tryd.ntmps116
    go_wp2_with (go_at_call 121; refine (plain_any _ _).mono ?_; rintro e w' ⟨rfl, rfl⟩)
    go_ret
    exact ⟨rfl, rfl⟩
  by_cases h8 : k = 8
  · subst h8
    go_enter Tryd.func116, Tryd.ntmps116
    go_wp2_with (go_at_call 121; refine (plain_any _ _).mono ?_; rintro e w' ⟨rfl, rfl⟩)
    go_ret
    exact ⟨rfl, rfl⟩
  by_cases h9 : k = 9
  · subst h9
    go_enter Tryd.func116, Tryd.ntmps116
    go_wp2_with (go_at_call 121; refine (plain_any _ _).mono ?_; rintro e w' ⟨rfl, rfl⟩)
    go_ret
    exact ⟨rfl, rfl⟩
  by_cases h10 : k = 10
  · subst h10
    go_enter Tryd.func116, Tryd.ntmps116
    go_wp2_with (go_at_call 121; refine (plain_any _ _).mono ?_; rintro e w' ⟨rfl, rfl⟩)
    go_ret
    exact ⟨rfl, rfl⟩
  by_cases h11 : k = 11
  · subst h11
    go_enter Tryd.func116, Tryd.ntmps116
    go_wp2_with (go_at_call 121; refine (plain_any _ _).mono ?_; rintro e w' ⟨rfl, rfl⟩)
    go_ret
    exact ⟨rfl, rfl⟩
  by_cases h13 : k = 13
  · subst h13
    go_enter Tryd.func116, Tryd.ntmps116
    go_wp2_with (go_at_call 121; refine (plain_any _ _).mono ?_; rintro e w' ⟨rfl, rfl⟩)
    go_ret
    exact ⟨rfl, rfl⟩
  by_cases h14 : k = 14
  · subst h14
    go_enter Tryd.func116, Tryd.ntmps116
    go_wp2_with (go_at_call 133; refine (divided_any _ _).mono ?_; rintro e w' ⟨rfl, rfl⟩)
    go_ret
    exact ⟨rfl, rfl⟩
  by_cases h15 : k = 15
  · subst h15
    go_enter Tryd.func116, Tryd.ntmps116
    go_wp2_with (go_at_call 133; refine (divided_any _ _).mono ?_; rintro e w' ⟨rfl, rfl⟩)
    go_ret
    exact ⟨rfl, rfl⟩
  have hV : tbV k w = .nilFunc := by simp only [tbV, tb, if_neg h3, if_neg h4, if_neg h5, if_neg h6, if_neg h7, if_neg h8, if_neg h9, if_neg h10, if_neg h11, if_neg h13, if_neg h14, if_neg h15]
  have hW : tbW k w = w := by simp only [tbW, tb, if_neg h3, if_neg h4, if_neg h5, if_neg h6, if_neg h7, if_neg h8, if_neg h9, if_neg h10, if_neg h11, if_neg h13, if_neg h14, if_neg h15]
  rw [hV, hW]
  clear hV hW
  go_enter Tryd.func116, Tryd.ntmps116
  go_wp2
  go_ret
  exact ⟨rfl, rfl⟩
end Go.Proofs.YtfkjkdoloamakaaDoor
