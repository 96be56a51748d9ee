/- The law WordPoison answers true: its ways put together. -/
import Derived.Test.YtlbfnmbodpfepaaWt
namespace Go.Proofs.Ytlbfnmbodpfepaa
open Go.RowKit

theorem late_low {k : Int} (h : has2 k = true) : lateK k = k ∧ lateB k = false ∧ k ≠ 1 ∧ k ≠ 2 ∧ k ≠ 12 := by
  have := of_decide_eq_true h
  refine ⟨?_, ?_, by omega, by omega, by omega⟩
  · simp only [lateK]; rw [if_neg (by omega), if_neg (by omega)]
  · simp only [lateB, decide_eq_false_iff_not]; omega

section
variable (k n a b bad : Int)
theorem p_known (h : has2 k = true) : known k = true := by
  simp [known, two2, (late_low h).1, h]
theorem p_v (h : has2 k = true) : doV k n (a, 0) (b, 0) (0, 0) = bothV k (a, 0) (b, 0) := by
  obtain ⟨_, _, h1, h2, h12⟩ := late_low h
  simp [doV, p_known k h, fm3, fm, doV0, h1, h2, h12]
theorem p_t (h : has2 k = true) : doT k (a, 0) (b, 0) (0, 0) = bothT k (a, 0) (b, 0) := by
  obtain ⟨_, _, h1, h2, h12⟩ := late_low h
  simp [doT, p_known k h, fm3, fm, doT0, h1, h2, h12]
theorem p_e (h : has2 k = true) : doE k (a, 0) (b, 0) (0, 0) = 0 := by simp [doE, p_known k h, fm3, fm]
theorem dv_of_trap (h : mT k b ≠ 0) : dv k = true := by
  unfold mT at h; split at h
  · rename_i h1; exact h1.1
  · exact absurd rfl h
end

/-- what poison makes of an operation that is not const or move: poison, or a trap -/
theorem s_ways (k n a b bad : Int) (hb : bad ≠ 0) (hk : known k = true) (h1 : k ≠ 1) (h2 : k ≠ 2) :
    (doV k n (0, bad) (b, 0) (a, 0) = (0, bad) ∧ doT k (0, bad) (b, 0) (a, 0) = 0 ∧ doV k n (1, 0) (0, bad) (a, 0) = (0, bad) ∧ doT k (1, 0) (0, bad) (a, 0) = 0) ∨
    (dv (lateK k) = true ∧ lateB k = false ∧ doV k n (0, bad) (b, 0) (a, 0) = (0, 0) ∧ doT k (0, bad) (b, 0) (a, 0) = bad ∧ doV k n (1, 0) (0, bad) (a, 0) = (0, 0) ∧ doT k (1, 0) (0, bad) (a, 0) = bad) := by
  by_cases h12 : k = 12
  · subst h12
    exact .inl (by simp [doV, doT, hk, fm3, fm, doV0, doT0, hb])
  · by_cases hd : dv (lateK k) = true ∧ lateB k = false
    · exact .inr ⟨hd.1, hd.2, by simp [doV, doT, hk, fm3, fm, doV0, doT0, h1, h2, h12, bothV, bothT, bad2, hb, hd.1, hd.2]⟩
    · refine .inl ?_
      have hd' : ¬ (bad ≠ 0 ∧ dv (lateK k) = true ∧ lateB k = false) := fun h => hd h.2
      refine ⟨?_, ?_, ?_, ?_⟩
      · simp only [doV, hk, fm3, fm, doV0, if_neg h1, if_neg h2, if_neg h12, bothV, bad2, if_neg hb]; simp [hd']
      · simp only [doT, hk, fm3, fm, doT0, bothT, bad2, if_neg hb]; simp [hd', h1, h2, h12]
      · simp only [doV, hk, fm3, fm, doV0, if_neg h1, if_neg h2, if_neg h12, bothV, bad2]; simp [hb]; exact fun u v => absurd ⟨u, v⟩ hd
      · simp only [doT, hk, fm3, fm, doT0, bothT, bad2]; simp [hb, h1, h2, h12]
        intro u
        cases hx : lateB k
        · exact absurd ⟨u, hx⟩ hd
        · rfl
theorem s_e (k a b bad : Int) (hk : known k = true) : doE k (0, bad) (b, 0) (a, 0) = 0 := by simp [doE, hk, fm3, fm]
theorem s_e2 (k a bad : Int) (hk : known k = true) : doE k (1, 0) (0, bad) (a, 0) = 0 := by simp [doE, hk, fm3, fm]

theorem law_poison (k d A B C n g a b bad : Int) (w : World) :
    Calls Try.prog 8 #[.agg #[.int .i64 k, .int .i64 d, .int .i64 A, .int .i64 B, .int .i64 C, .int .i64 n, .int .i64 g], .int .i64 a, .int .i64 b, .int .i64 bad] w fun e w' => e = .returned (.bool true) ∧ Below w.heap.size w w' := by
  by_cases h : has2 k = true
  · have he : mE k = 0 := by simp [mE, h]
    have hf := p_e k a b h
    have hv := p_v k n a b h
    have hu := p_t k a b h
    obtain ⟨hl, hlb, h1, h2, h12⟩ := late_low h
    have hk := p_known k h
    by_cases ht : mT k b = 0
    · have ev : bothV k (a, 0) (b, 0) = (mN k a b, 0) := by simp [bothV, bad2, hl, ht]
      have et : bothT k (a, 0) (b, 0) = 0 := by simp [bothT, bad2, hl, ht]
      rw [ev] at hv; rw [et] at hu
      by_cases hb : bad = 0
      · subst hb
        exact poison_11 k d A B C n g a b _ rfl ht he hv hu hf w
      · rcases s_ways k n a b bad hb hk h1 h2 with ⟨x1, x2, x3, x4⟩ | ⟨_, _, x1, x2, x3, x4⟩
        · exact poison_15 k d A B C n g a b bad _ rfl ht he hv hu hf hb hk h1 h2 x1 x2 (s_e k a b bad hk) x3 x4 (s_e2 k a bad hk) w
        · exact poison_16 k d A B C n g a b bad _ rfl ht he hv hu hf hb hk h1 h2 x1 x2 (s_e k a b bad hk) x3 x4 (s_e2 k a bad hk) w
    · have hd := dv_of_trap k b ht
      have ev : bothV k (a, 0) (b, 0) = (0, 0) := by simp [bothV, bad2, hl, hlb, ht, hd]
      have et : bothT k (a, 0) (b, 0) = mT k b := by simp [bothT, bad2, hl, hlb, ht, hd]
      rw [ev] at hv; rw [et] at hu
      by_cases hb : bad = 0
      · subst hb
        exact poison_21 k d A B C n g a b _ _ ht rfl rfl he hv hu hf w
      · have hc : dv (lateK k) = true ∧ lateB k = false := ⟨by rw [hl]; exact hd, hlb⟩
        have x1 : doV k n (0, bad) (b, 0) (a, 0) = (0, 0) := by simp [doV, hk, fm3, fm, doV0, h1, h2, h12, bothV, bad2, hb, hc.1, hc.2]
        have x2 : doT k (0, bad) (b, 0) (a, 0) = bad := by simp [doT, hk, fm3, fm, doT0, h1, h2, h12, bothT, bad2, hb, hc.1, hc.2]
        have x3 : doV k n (1, 0) (0, bad) (a, 0) = (0, 0) := by simp [doV, hk, fm3, fm, doV0, h1, h2, h12, bothV, bad2, hb, hc.1, hc.2]
        have x4 : doT k (1, 0) (0, bad) (a, 0) = bad := by simp [doT, hk, fm3, fm, doT0, h1, h2, h12, bothT, bad2, hb, hc.1, hc.2]
        exact poison_26 k d A B C n g a b bad _ _ ht rfl rfl he hv hu hf hb hk h1 h2 x1 x2 (s_e k a b bad hk) x3 x4 (s_e2 k a bad hk) w
  · have h' : has2 k = false := by simpa using h
    have he : mE k = 2 := by simp [mE, h']
    by_cases hb : bad = 0
    · subst hb
      exact poison_31 k d A B C n g a b _ _ _ _ _ _ rfl rfl he rfl rfl rfl w
    · by_cases hk : known k = true
      · by_cases h1 : k = 1
        · exact poison_33 k d A B C n g a b bad _ _ _ _ _ _ rfl rfl he rfl rfl rfl hb hk h1 w
        · by_cases h2 : k = 2
          · refine poison_34 k d A B C n g a b bad _ _ _ _ _ _ rfl rfl he rfl rfl rfl hb hk h1 h2 ?_ ?_ (s_e k a b bad hk) w
            · subst h2; simp [doV, hk, fm3, fm, doV0]
            · subst h2; simp [doT, hk, fm3, fm, doT0]
          · have hc : ¬ (dv (lateK k) = true ∧ lateB k = false) := by
              rintro ⟨c1, c2⟩
              have c3 : lateK k = k := by
                simp only [lateB, decide_eq_false_iff_not] at c2
                simp only [lateK]; rw [if_neg (by omega), if_neg (by omega)]
              rw [c3] at c1
              have c4 := dv_yes c1
              simp only [has2, decide_eq_false_iff_not] at h'
              omega
            rcases s_ways k n a b bad hb hk h1 h2 with ⟨x1, x2, x3, x4⟩ | ⟨c1, c2, _⟩
            · exact poison_35 k d A B C n g a b bad _ _ _ _ _ _ rfl rfl he rfl rfl rfl hb hk h1 h2 x1 x2 (s_e k a b bad hk) x3 x4 (s_e2 k a bad hk) w
            · exact absurd ⟨c1, c2⟩ hc
      · exact poison_32 k d A B C n g a b bad _ _ _ _ _ _ rfl rfl he rfl rfl rfl hb (by simpa using hk) w
end Go.Proofs.Ytlbfnmbodpfepaa
