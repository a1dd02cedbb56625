/- This claim's own texts, joined, with only what the claim uses: Core. -/
namespace Go.Proofs.YtfmmjekhknaniaaDoor.Core

abbrev Cg := Bool × Int × Int

def In32 (x : Int) : Prop := -2147483648 ≤ x ∧ x ≤ 2147483647
instance (x : Int) : Decidable (In32 x) := by unfold In32; infer_instance

/-- x is one of the numbers of c. -/
def Mem (c : Cg) (x : Int) : Prop := c.1 = false ∧ In32 x ∧ c.2.1 ∣ x - c.2.2

/-- the fit congruence of the int32 that are r and a multiple of g apart. -/
def norm (g r : Int) : Cg :=
  if g = 0 then (if In32 r then (false, 0, r) else (true, 0, 0))
  else if -2147483648 + (r + 2147483648) % g > 2147483647 then (true, 0, 0)
  else if -2147483648 + (r + 2147483648) % g + g > 2147483647 then (false, 0, -2147483648 + (r + 2147483648) % g)
  else (false, g, r % g)

def Fit (c : Cg) : Prop :=
  c = (true, 0, 0) ∨ (c.1 = false ∧ c.2.1 = 0 ∧ In32 c.2.2) ∨
  (c.1 = false ∧ 0 < c.2.1 ∧ 0 ≤ c.2.2 ∧ c.2.2 < c.2.1 ∧ ∃ y, In32 y ∧ In32 (y + c.2.1) ∧ c.2.1 ∣ y - c.2.2)

theorem first_dvd (g r : Int) : g ∣ (-2147483648 + (r + 2147483648) % g) - r := by
  have h := Int.mul_ediv_add_emod (r + 2147483648) g
  refine ⟨-((r + 2147483648) / g), ?_⟩
  rw [Int.mul_neg]; omega

theorem dvd_sub_comm' {g a b : Int} (h : g ∣ a - b) : g ∣ b - a := by
  have := Int.dvd_neg.mpr h
  rwa [Int.neg_sub] at this

theorem dvd_sub_trans {g a b c : Int} (h : g ∣ a - b) (k : g ∣ b - c) : g ∣ a - c := by
  have := Int.dvd_add h k
  rwa [show a - b + (b - c) = a - c by omega] at this

theorem ge_of_dvd {g x f : Int} (hg : 0 < g) (h : g ∣ x - f) (hlt : f - g < x) : f ≤ x := by
  obtain ⟨q, hq⟩ := h
  by_cases hq0 : 0 ≤ q
  · have := Int.mul_nonneg (Int.le_of_lt hg) hq0; omega
  · have : g * q ≤ g * (-1) := Int.mul_le_mul_of_nonneg_left (by omega) (Int.le_of_lt hg)
    omega

theorem eq_or_step {g x f : Int} (hg : 0 < g) (h : g ∣ x - f) (hle : f ≤ x) : x = f ∨ f + g ≤ x := by
  by_cases e : x = f
  · exact Or.inl e
  · right
    have h2 : g ∣ x - (f + g) := by
      have := Int.dvd_sub h (Int.dvd_refl g)
      rwa [show x - f - g = x - (f + g) by omega] at this
    exact ge_of_dvd hg h2 (by omega)

theorem emod_dvd_sub (g r : Int) : g ∣ r - r % g := by
  have h := Int.mul_ediv_add_emod r g
  exact ⟨r / g, by omega⟩

theorem mem_norm {g r x : Int} (hg : 0 ≤ g) : Mem (norm g r) x ↔ In32 x ∧ g ∣ x - r := by
  unfold norm
  by_cases h0 : g = 0
  · subst h0
    rw [if_pos rfl]
    by_cases hr : In32 r
    · rw [if_pos hr]; simp [Mem]
    · rw [if_neg hr]
      simp only [Mem, Bool.true_eq_false, false_and, false_iff]
      rintro ⟨hx, hd⟩
      rw [Int.zero_dvd] at hd
      exact hr (by rwa [show r = x by omega])
  · rw [if_neg h0]
    have hg' : 0 < g := by omega
    have hf := first_dvd g r
    have f0 := Int.emod_nonneg (r + 2147483648) h0
    have f1 := Int.emod_lt_of_pos (r + 2147483648) hg'
    have fl : -2147483648 ≤ -2147483648 + (r + 2147483648) % g := by omega
    have fu : -2147483648 + (r + 2147483648) % g < -2147483648 + g := by omega
    clear f0 f1
    generalize -2147483648 + (r + 2147483648) % g = f at *
    have key : ∀ x, In32 x → g ∣ x - r → f ≤ x := fun x hx hd => by
      refine ge_of_dvd hg' (dvd_sub_trans hd (dvd_sub_comm' hf)) ?_
      unfold In32 at hx; omega
    by_cases h1 : f > 2147483647
    · rw [if_pos h1]
      simp only [Mem, Bool.true_eq_false, false_and, false_iff]
      rintro ⟨hx, hd⟩
      have := key x hx hd
      unfold In32 at hx; omega
    · rw [if_neg h1]
      by_cases h2 : f + g > 2147483647
      · rw [if_pos h2]
        simp only [Mem, true_and, Int.zero_dvd]
        constructor
        · rintro ⟨hx, he⟩
          refine ⟨hx, ?_⟩
          rw [show x = f by omega]; exact hf
        · rintro ⟨hx, hd⟩
          refine ⟨hx, ?_⟩
          have hk := key x hx hd
          rcases eq_or_step hg' (dvd_sub_trans hd (dvd_sub_comm' hf)) hk with e | e
          · omega
          · unfold In32 at hx; omega
      · rw [if_neg h2]
        simp only [Mem, true_and]
        refine and_congr_right fun _ => ⟨fun h => dvd_sub_trans h (dvd_sub_comm' (emod_dvd_sub g r)), fun h => dvd_sub_trans h (emod_dvd_sub g r)⟩

theorem fit_none : Fit (true, 0, 0) := Or.inl rfl

theorem fit_norm {g r : Int} (hg : 0 ≤ g) : Fit (norm g r) := by
  unfold norm
  by_cases h0 : g = 0
  · subst h0
    rw [if_pos rfl]
    by_cases hr : In32 r
    · rw [if_pos hr]; exact Or.inr (Or.inl ⟨rfl, rfl, hr⟩)
    · rw [if_neg hr]; exact fit_none
  · rw [if_neg h0]
    have hg' : 0 < g := by omega
    have hf := first_dvd g r
    have f0 := Int.emod_nonneg (r + 2147483648) h0
    have f1 := Int.emod_lt_of_pos (r + 2147483648) hg'
    have fl : -2147483648 ≤ -2147483648 + (r + 2147483648) % g := by omega
    have fu : -2147483648 + (r + 2147483648) % g < -2147483648 + g := by omega
    clear f0 f1
    generalize -2147483648 + (r + 2147483648) % g = f at *
    by_cases h1 : f > 2147483647
    · rw [if_pos h1]; exact fit_none
    · rw [if_neg h1]
      by_cases h2 : f + g > 2147483647
      · rw [if_pos h2]; exact Or.inr (Or.inl ⟨rfl, rfl, by unfold In32; dsimp only; omega⟩)
      · rw [if_neg h2]
        refine Or.inr (Or.inr ⟨rfl, hg', Int.emod_nonneg _ h0, Int.emod_lt_of_pos _ hg', f, ?_, ?_, ?_⟩)
        · unfold In32; omega
        · unfold In32; dsimp only; omega
        · exact dvd_sub_trans hf (emod_dvd_sub g r)

/-- a fit one that is not none has a number. -/
theorem fit_some {c : Cg} (h : Fit c) (hn : c.1 = false) : ∃ x, Mem c x := by
  rcases h with rfl | ⟨h1, h2, h3⟩ | ⟨h1, h2, _, _, y, h3, _, h5⟩
  · cases hn
  · refine ⟨c.2.2, h1, h3, ?_⟩
    rw [Int.sub_self]; exact Int.dvd_zero _
  · exact ⟨y, h1, h3, h5⟩

theorem fit_of_none {c : Cg} (h : Fit c) (hn : c.1 = true) : c = (true, 0, 0) := by
  rcases h with rfl | ⟨h1, _⟩ | ⟨h1, _⟩
  · rfl
  · rw [h1] at hn; cases hn
  · rw [h1] at hn; cases hn

theorem fit_mod {c : Cg} (h : Fit c) : 0 ≤ c.2.1 ∧ c.2.1 ≤ 4294967295 ∧ -2147483648 ≤ c.2.2 ∧ c.2.2 ≤ 4294967294 := by
  rcases h with rfl | ⟨_, h2, h3⟩ | ⟨_, h2, h3, h4, y, h5, h6, _⟩
  · simp
  · unfold In32 at h3; omega
  · unfold In32 at h5 h6; omega

theorem fit_rem {c : Cg} (h : Fit c) : (c.2.1 = 0 ∧ -2147483648 ≤ c.2.2 ∧ c.2.2 ≤ 2147483647) ∨ (0 < c.2.1 ∧ 0 ≤ c.2.2 ∧ c.2.2 < c.2.1 ∧ c.2.1 ≤ 4294967295) := by
  rcases h with rfl | ⟨_, h2, h3⟩ | ⟨_, h2, h3, h4, y, h5, h6, _⟩
  · simp
  · unfold In32 at h3; omega
  · unfold In32 at h5 h6; omega

/-- c's numbers are b's: b's modulus divides c's, and the difference. -/
theorem sub_dvd {a b : Cg} (ha : Fit a) (hn : a.1 = false) (h : ∀ x, Mem a x → Mem b x) :
    b.1 = false ∧ b.2.1 ∣ a.2.1 ∧ b.2.1 ∣ a.2.2 - b.2.2 := by
  rcases ha with rfl | ⟨h1, h2, h3⟩ | ⟨h1, h2, h3, h4, y, h5, h6, h7⟩
  · cases hn
  · have hm := h a.2.2 ⟨h1, h3, by rw [Int.sub_self]; exact Int.dvd_zero _⟩
    exact ⟨hm.1, by rw [h2]; exact Int.dvd_zero _, hm.2.2⟩
  · have m1 := h y ⟨h1, h5, h7⟩
    have m2 := h (y + a.2.1) ⟨h1, h6, by have := Int.dvd_add h7 (Int.dvd_refl a.2.1); rwa [show y - a.2.2 + a.2.1 = y + a.2.1 - a.2.2 by omega] at this⟩
    have hd : b.2.1 ∣ a.2.1 := by
      have := Int.dvd_sub m2.2.2 m1.2.2
      rwa [show y + a.2.1 - b.2.2 - (y - b.2.2) = a.2.1 by omega] at this
    refine ⟨m1.1, hd, ?_⟩
    exact dvd_sub_trans (dvd_sub_comm' (Int.dvd_trans hd h7)) m1.2.2

/-- equal numbers: equal. -/
theorem fit_ext {a b : Cg} (ha : Fit a) (hb : Fit b) (h : ∀ x, Mem a x ↔ Mem b x) : a = b := by
  by_cases na : a.1 = true
  · have nb : b.1 = true := by
      by_cases nb : b.1 = true
      · exact nb
      · obtain ⟨x, hx⟩ := fit_some hb (by simpa using nb)
        have := ((h x).mpr hx).1
        rw [na] at this; cases this
    rw [fit_of_none ha na, fit_of_none hb nb]
  · have na : a.1 = false := by simpa using na
    obtain ⟨nb, d1, d2⟩ := sub_dvd ha na fun x hx => (h x).mp hx
    obtain ⟨_, d3, d4⟩ := sub_dvd hb nb fun x hx => (h x).mpr hx
    have ra := fit_rem ha
    have rb := fit_rem hb
    have hm : a.2.1 = b.2.1 := Int.dvd_antisymm (by omega) (by omega) d3 d1
    have hr : a.2.2 = b.2.2 := by
      rcases ra with ra | ra
      · rw [← hm, ra.1, Int.zero_dvd] at d2; omega
      · rcases rb with rb | rb
        · omega
        · obtain ⟨q, hq⟩ := d2
          have : q = 0 := by
            rcases Int.lt_trichotomy q 0 with hq0 | hq0 | hq0
            · have : b.2.1 * q ≤ b.2.1 * (-1) := Int.mul_le_mul_of_nonneg_left (by omega) (by omega)
              omega
            · exact hq0
            · have : b.2.1 * 1 ≤ b.2.1 * q := Int.mul_le_mul_of_nonneg_left (by omega) (by omega)
              omega
          subst this; omega
    obtain ⟨a1, a2, a3⟩ := a
    obtain ⟨b1, b2, b3⟩ := b
    simp only at *
    subst na nb hm hr
    rfl

theorem norm_self {c : Cg} (h : Fit c) (hn : c.1 = false) : norm c.2.1 c.2.2 = c := by
  have hm := fit_mod h
  refine fit_ext (fit_norm (by omega)) h fun x => ?_
  rw [mem_norm (by omega)]
  exact ⟨fun ⟨a, b⟩ => ⟨hn, a, b⟩, fun ⟨_, a, b⟩ => ⟨a, b⟩⟩

theorem norm_congr {g r s : Int} (hg : 0 ≤ g) (h : g ∣ r - s) : norm g r = norm g s := by
  refine fit_ext (fit_norm hg) (fit_norm hg) fun x => ?_
  rw [mem_norm hg, mem_norm hg]
  exact and_congr_right fun _ => ⟨fun k => dvd_sub_trans k h, fun k => dvd_sub_trans k (dvd_sub_comm' h)⟩

theorem norm_sub {g r g' r' : Int} (hg : 0 ≤ g) (hg' : 0 ≤ g') (h1 : g' ∣ g) (h2 : g' ∣ r - r') : ∀ x, Mem (norm g r) x → Mem (norm g' r') x := by
  intro x
  rw [mem_norm hg, mem_norm hg']
  exact fun ⟨a, b⟩ => ⟨a, dvd_sub_trans (Int.dvd_trans h1 b) h2⟩

end Go.Proofs.YtfmmjekhknaniaaDoor.Core

