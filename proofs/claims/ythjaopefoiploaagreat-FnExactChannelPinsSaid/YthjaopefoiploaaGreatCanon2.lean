/-
  More plain laws of regions: the canonical list of a set of cells covers just these cells, is short, valid and of bounded area.
-/
import Derived.Test.YthjaopefoiploaaGreatCanon
namespace Go.Proofs.YthjaopefoiploaaGreat

/-! ## runs -/
theorem runs_any (r : Nat → Bool) (x0 x : Nat) (hx : x < 80) : ((runsFrom r x0).any fun p => decide (p.1 ≤ x) && decide (x < p.2)) = (decide (x0 ≤ x) && r x) := by
  rw [runsFrom]
  by_cases h : x0 < 80
  · rw [if_pos h]
    by_cases hr : r x0 = true
    · rw [if_pos hr]
      have ih := runs_any r (runEnd r (x0 + 1) + 1) x hx
      have h1 := runEnd_ge r (x0 + 1)
      have h2 := runEnd_has r (x0 + 1)
      have h3 := runEnd_in r (x0 + 1) x
      rw [List.any_cons, ih]
      by_cases c : x0 ≤ x
      · by_cases c1 : x < runEnd r (x0 + 1)
        · have : r x = true := by
            by_cases c2 : x = x0
            · rw [c2]; exact hr
            · have := h3 (by omega) c1; simp [has] at this; exact this.2
          simp [c, c1, this]
        · by_cases c2 : x = runEnd r (x0 + 1)
          · rw [← c2] at h2
            have : r x = false := by simpa [has, hx] using h2
            simp [this, c1]
          · have : runEnd r (x0 + 1) + 1 ≤ x := by omega
            simp [this, c, c1]
      · have : ¬ runEnd r (x0 + 1) + 1 ≤ x := by omega
        simp [c, this]
    · rw [if_neg hr, runs_any r (x0 + 1) x hx]
      by_cases c : x = x0
      · subst c; simp [hr]
      · congr 1; rw [decide_eq_decide]; omega
  · rw [if_neg h]
    have : ¬ x0 ≤ x := by omega
    simp [this]
termination_by 80 - x0
decreasing_by
  · have := runEnd_ge r (x0 + 1); omega
  · omega
theorem runs_mem (r : Nat → Bool) (x0 : Nat) : ∀ p ∈ runsFrom r x0, p.1 < p.2 ∧ p.2 ≤ 80 := by
  intro p hp
  rw [runsFrom] at hp
  by_cases h : x0 < 80
  · rw [if_pos h] at hp
    by_cases hr : r x0 = true
    · rw [if_pos hr] at hp
      have h1 := runEnd_ge r (x0 + 1)
      have h2 := runEnd_le r (x0 + 1) (by omega)
      rcases List.mem_cons.1 hp with rfl | hp
      · exact ⟨by simp only; omega, h2⟩
      · exact runs_mem r _ p hp
    · rw [if_neg hr] at hp; exact runs_mem r _ p hp
  · rw [if_neg h] at hp; cases hp
termination_by 80 - x0
decreasing_by
  · have := runEnd_ge r (x0 + 1); omega
  · omega
theorem runs_len (r : Nat → Bool) (x0 : Nat) : 2 * (runsFrom r x0).length ≤ 81 - x0 := by
  rw [runsFrom]
  by_cases h : x0 < 80
  · rw [if_pos h]
    by_cases hr : r x0 = true
    · rw [if_pos hr]
      have h1 := runEnd_ge r (x0 + 1)
      have h2 := runs_len r (runEnd r (x0 + 1) + 1)
      simp only [List.length_cons]; omega
    · rw [if_neg hr]
      have := runs_len r (x0 + 1); omega
  · rw [if_neg h]; simp
termination_by 80 - x0
decreasing_by
  · have := runEnd_ge r (x0 + 1); omega
  · omega
def wsum : List (Nat × Nat) → Nat
  | [] => 0
  | p :: l => (p.2 - p.1) + wsum l
theorem runs_wsum (r : Nat → Bool) (x : Nat) : wsum (runsFrom r x) ≤ 80 - x := by
  rw [runsFrom]
  by_cases hx : x < 80
  · rw [if_pos hx]
    by_cases hr : r x = true
    · rw [if_pos hr]
      have h1 := runEnd_ge r (x + 1)
      have h2 := runEnd_le r (x + 1) (by omega)
      have h3 := runs_wsum r (runEnd r (x + 1) + 1)
      simp only [wsum]; omega
    · rw [if_neg hr]
      have := runs_wsum r (x + 1); omega
  · rw [if_neg hx]; simp [wsum]
termination_by 80 - x
decreasing_by
  · have := runEnd_ge r (x + 1); omega
  · omega

/-! ## the canonical list -/
theorem inR_mkR {y e : Nat} {p : Nat × Nat} {y' x' : Nat} : inR (mkR y e p) y' x' = ((decide (p.1 ≤ x') && decide (x' < p.2)) && (decide (y ≤ y') && decide (y' < e))) := by
  rw [Bool.eq_iff_iff]; simp [inR, mkR]; omega
theorem rowsEq_gb' {bs : List Bool} {z y : Nat} (h : rowsEq bs z y = true) : ∀ x, x < 80 → gb bs z x = gb bs y x := by
  simp only [rowsEq, decide_eq_true_eq] at h
  exact trans_inj h
theorem any_map_and {α : Type} (l : List α) (f : α → Bool) (b : Bool) : (l.any fun p => f p && b) = (l.any f && b) := by
  cases b <;> simp
theorem canonFrom_any (bs : List Bool) (y0 y x : Nat) (hy : y < 80) (hx : x < 80) : ((canonFrom bs y0).any fun r => inR r y x) = (decide (y0 ≤ y) && gb bs y x) := by
  rw [canonFrom]
  by_cases h : y0 < 80
  · rw [if_pos h, List.any_append, canonFrom_any bs (endFrom bs y0 (y0 + 1)) y x hy hx, List.any_map]
    have e1 : ((fun r => inR r y x) ∘ mkR y0 (endFrom bs y0 (y0 + 1))) = fun p : Nat × Nat => (decide (p.1 ≤ x) && decide (x < p.2)) && (decide (y0 ≤ y) && decide (y < endFrom bs y0 (y0 + 1))) := by
      funext p; exact inR_mkR
    rw [e1, any_map_and, runs_any _ _ _ hx]
    have h1 := endFrom_ge bs y0 (y0 + 1)
    have h2 := endFrom_eq bs y0 (y0 + 1) y
    by_cases c : y0 ≤ y
    · by_cases c1 : y < endFrom bs y0 (y0 + 1)
      · have e2 : gb bs y x = gb bs y0 x := by
          by_cases c2 : y = y0
          · rw [c2]
          · exact rowsEq_gb' (h2 (by omega) c1) x hx
        have : ¬ endFrom bs y0 (y0 + 1) ≤ y := by omega
        simp [c, c1, this, e2]
      · have : endFrom bs y0 (y0 + 1) ≤ y := by omega
        simp [c, c1, this]
    · have : ¬ endFrom bs y0 (y0 + 1) ≤ y := by omega
      simp [c, this]
  · rw [if_neg h]
    have : ¬ y0 ≤ y := by omega
    simp [this]
termination_by 80 - y0
decreasing_by have := endFrom_ge bs y0 (y0 + 1); omega
theorem bits_canon {bs : List Bool} (h : bs.length = 6400) : bits (canon bs) = bs :=
  (bits_eq h fun y x hy hx => by rw [canon, canonFrom_any bs 0 y x hy hx]; simp).symm
theorem canonFrom_len (bs : List Bool) (y : Nat) : (canonFrom bs y).length ≤ 40 * (80 - y) := by
  rw [canonFrom]
  by_cases h : y < 80
  · rw [if_pos h, List.length_append, List.length_map]
    have h1 := endFrom_ge bs y (y + 1)
    have h2 := canonFrom_len bs (endFrom bs y (y + 1))
    have h3 := runs_len (gb bs y) 0
    omega
  · rw [if_neg h]; simp
termination_by 80 - y
decreasing_by have := endFrom_ge bs y (y + 1); omega
theorem canon_len (bs : List Bool) : (canon bs).length ≤ 3200 := canonFrom_len bs 0
theorem canonFrom_mem (bs : List Bool) (y : Nat) : ∀ r ∈ canonFrom bs y, -40 ≤ r.x0 ∧ r.x0 < r.x1 ∧ r.x1 ≤ 40 ∧ -40 ≤ r.y0 ∧ r.y0 < r.y1 ∧ r.y1 ≤ 40 := by
  intro r hr
  rw [canonFrom] at hr
  by_cases h : y < 80
  · rw [if_pos h] at hr
    have h1 := endFrom_ge bs y (y + 1)
    have h2 := endFrom_le bs y (y + 1) (by omega)
    rcases List.mem_append.1 hr with hr | hr
    · obtain ⟨p, hp, rfl⟩ := List.mem_map.1 hr
      have := runs_mem _ _ p hp
      simp only [mkR]; omega
    · exact canonFrom_mem bs _ r hr
  · rw [if_neg h] at hr; cases hr
termination_by 80 - y
decreasing_by have := endFrom_ge bs y (y + 1); omega
def areaR (r : Rect) : Int := (r.x1 - r.x0) * (r.y1 - r.y0)
def areaS : List Rect → Int
  | [] => 0
  | r :: l => areaR r + areaS l
theorem areaS_append : ∀ (a b : List Rect), areaS (a ++ b) = areaS a + areaS b
  | [], b => by simp [areaS]
  | r :: a, b => by simp only [List.cons_append, areaS, areaS_append a b]; omega
theorem area_map {y e : Nat} (hye : y ≤ e) : ∀ (l : List (Nat × Nat)), (∀ p ∈ l, p.1 < p.2 ∧ p.2 ≤ 80) → areaS (l.map (mkR y e)) = ((wsum l * (e - y) : Nat) : Int)
  | [], _ => by simp [areaS, wsum]
  | p :: l, h => by
    have ih := area_map hye l fun p hp => h p (.tail _ hp)
    have hp := h p (.head _)
    have e1 : areaR (mkR y e p) = (((p.2 - p.1) * (e - y) : Nat) : Int) := by
      simp only [areaR, mkR]
      rw [Int.natCast_mul]; congr 1 <;> omega
    simp only [List.map_cons, areaS, ih, wsum, e1, Nat.add_mul]; omega
theorem areaS_canonFrom (bs : List Bool) (y : Nat) : areaS (canonFrom bs y) ≤ 80 * ((80 - y : Nat) : Int) := by
  rw [canonFrom]
  by_cases h : y < 80
  · rw [if_pos h, areaS_append]
    have h1 := endFrom_ge bs y (y + 1)
    have h2 := endFrom_le bs y (y + 1) (by omega)
    have ih := areaS_canonFrom bs (endFrom bs y (y + 1))
    rw [area_map (by omega) _ (runs_mem _ _)]
    have h3 := runs_wsum (gb bs y) 0
    have h4 : wsum (runsFrom (gb bs y) 0) * (endFrom bs y (y + 1) - y) ≤ 80 * (endFrom bs y (y + 1) - y) := Nat.mul_le_mul_right _ h3
    omega
  · rw [if_neg h]; simp [areaS]; omega
termination_by 80 - y
decreasing_by have := endFrom_ge bs y (y + 1); omega
theorem areaS_canon (bs : List Bool) : areaS (canon bs) ≤ 6400 := by
  have := areaS_canonFrom bs 0; rw [canon]; omega
end Go.Proofs.YthjaopefoiploaaGreat
