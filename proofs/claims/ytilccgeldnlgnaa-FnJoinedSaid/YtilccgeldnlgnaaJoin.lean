/-
  Plain: pieces with a common cell of a contact or a via are on one net, and adjacent cells of a conductor are, too.
-/
import Derived.Test.YtilccgeldnlgnaaNets3
namespace Go.Proofs.Ytilccgeldnlgnaa
open Go
set_option linter.unusedSimpArgs false
set_option maxRecDepth 20000
theorem piece_at {l : List (List Rect)} {i : Nat} (hi : i < 4) {y x : Nat} (hy : y < 80) (hx : x < 80) (h : gb (gd (condB l) i) y x = true) :
    ∃ j, j < (pcL l 4).length ∧ (gd (pcL l 4) j).1 = gd [0, 1, 3, 5] i ∧ gb (gd (pcL l 4) j).2 y x = true ∧ ∀ y' x', y' < 80 → x' < 80 → Adj (y, x) (y', x') → gb (gd (condB l) i) y' x' = true → gb (gd (pcL l 4) j).2 y' x' = true := by
  have hc := comps_cover (S := gd (condB l) i) hy hx
  rw [h, List.any_eq_true] at hc
  obtain ⟨c, hc, hg⟩ := hc
  have hm : ((gd [0, 1, 3, 5] i, c) : Int × List Bool) ∈ pcL l 4 := by
    rw [pcL, List.mem_flatten]
    exact ⟨_, List.mem_map.2 ⟨i, List.mem_range.2 hi, rfl⟩, List.mem_map.2 ⟨c, hc, rfl⟩⟩
  obtain ⟨j, hj, e⟩ := List.getElem_of_mem hm
  refine ⟨j, hj, ?_⟩
  rw [gd_eq hj, e]
  refine ⟨rfl, hg, fun y' x' hy' hx' ha hs => ?_⟩
  obtain ⟨j0, _, rfl⟩ := List.mem_map.1 hc
  exact (comp_iff hy' hx').2 (((comp_iff hy hx).1 hg).step ha ⟨hy', hx', hs⟩)
noncomputable def connC (l : List (List Rect)) (n x y m x' y' : Int) : Bool := decide (0 ≤ findL l n x y) && decide (findL l n x y = findL l m x' y')
theorem connC_of {l : List (List Rect)} {n x y m x' y' : Int} {i j : Nat} (hi : i < (pcL l 4).length) (hj : j < (pcL l 4).length) (h1 : atB n x y (gd (pcL l 4) i) = true) (h2 : atB m x' y' (gd (pcL l 4) j) = true) (h : numR (clsL l) i = numR (clsL l) j) : connC l n x y m x' y' = true := by
  rw [connC, findL_at hi h1, findL_at hj h2, h]
  simp
theorem atB_of {n x y : Int} {p : Int × List Bool} (hr : -40 ≤ x ∧ x < 40 ∧ -40 ≤ y ∧ y < 40) (h1 : p.1 = n) (h2 : gb p.2 (y + 40).toNat (x + 40).toNat = true) : atB n x y p = true := by
  rw [atB, cellB_in hr, h2, decide_eq_true h1]; rfl
theorem join_at {l : List (List Rect)} {i k : Nat} (hi : i < 4) (hk : k < 4) {x y : Int} (hr : -40 ≤ x ∧ x < 40 ∧ -40 ≤ y ∧ y < 40) (h1 : gb (gd (condB l) i) (y + 40).toNat (x + 40).toNat = true) (h2 : gb (gd (condB l) k) (y + 40).toNat (x + 40).toNat = true)
    (hj : ∀ p q : Int × List Bool, p.1 = gd [0, 1, 3, 5] i → q.1 = gd [0, 1, 3, 5] k → gb p.2 (y + 40).toNat (x + 40).toNat = true → gb q.2 (y + 40).toNat (x + 40).toNat = true → jnL l p q = true) : connC l (gd [0, 1, 3, 5] i) x y (gd [0, 1, 3, 5] k) x y = true := by
  obtain ⟨a, ha, a1, a2, _⟩ := piece_at hi (by omega) (by omega) h1
  obtain ⟨b, hb, b1, b2, _⟩ := piece_at hk (by omega) (by omega) h2
  exact connC_of ha hb (atB_of hr a1 a2) (atB_of hr b1 b2) (numR_join ha hb (hj _ _ a1 b1 a2 b2))
theorem jn_cont {l : List (List Rect)} {y x : Nat} (hy : y < 80) (hx : x < 80) {n : Int} (hn : n = 0 ∨ n = 1) (hc : gb (bits (gd l 2)) y x = true) (p q : Int × List Bool) (h1 : p.1 = 3) (h2 : q.1 = n) (h3 : gb p.2 y x = true) (h4 : gb q.2 y x = true) : jnL l p q = true := by
  have hm : mt p.2 q.2 (bits (gd l 2)) = true := mt_iff.2 ⟨y, x, hy, hx, h3, h4, hc⟩
  rw [jnL, jnR_eq, hm, h1, h2]
  rcases hn with rfl | rfl <;> simp
theorem jn_via {l : List (List Rect)} {y x : Nat} (hy : y < 80) (hx : x < 80) (hc : gb (bits (gd l 4)) y x = true) (p q : Int × List Bool) (h1 : p.1 = 3) (h2 : q.1 = 5) (h3 : gb p.2 y x = true) (h4 : gb q.2 y x = true) : jnL l p q = true := by
  have hm : mt p.2 q.2 (bits (gd l 4)) = true := mt_iff.2 ⟨y, x, hy, hx, h3, h4, hc⟩
  rw [jnL, jnR_eq, hm, h1, h2]
  simp
theorem cB0 (l : List (List Rect)) : gd (condB l) 0 = zipB (fun p q => p && !q) (bits (gd l 0)) (bits (gd l 1)) := by simp [condB, gd]
theorem cB1 (l : List (List Rect)) : gd (condB l) 1 = bits (gd l 1) := by simp [condB, gd]
theorem cB2 (l : List (List Rect)) : gd (condB l) 2 = bits (gd l 3) := by simp [condB, gd]
theorem cB3 (l : List (List Rect)) : gd (condB l) 3 = bits (gd l 5) := by simp [condB, gd]
theorem ly0 : gd ([0, 1, 3, 5] : List Int) 0 = 0 := by simp [gd]
theorem ly1 : gd ([0, 1, 3, 5] : List Int) 1 = 1 := by simp [gd]
theorem ly2 : gd ([0, 1, 3, 5] : List Int) 2 = 3 := by simp [gd]
theorem ly3 : gd ([0, 1, 3, 5] : List Int) 3 = 5 := by simp [gd]
theorem join_poly {l : List (List Rect)} {x y : Int} (h3 : cellB (bits (gd l 3)) x y = true) (h2 : cellB (bits (gd l 2)) x y = true) (h1 : cellB (bits (gd l 1)) x y = true) : connC l 3 x y 1 x y = true := by
  have hr := cellB_true h3
  rw [cellB_in hr] at h1 h2 h3
  have := join_at (l := l) (i := 2) (k := 1) (by omega) (by omega) hr (by rw [cB2]; exact h3) (by rw [cB1]; exact h1) (by rw [ly2, ly1]; exact jn_cont (by omega) (by omega) (.inr rfl) h2)
  rwa [ly2, ly1] at this
theorem join_diff {l : List (List Rect)} {x y : Int} (h3 : cellB (bits (gd l 3)) x y = true) (h2 : cellB (bits (gd l 2)) x y = true) (h0 : cellB (bits (gd l 0)) x y = true) (h1 : cellB (bits (gd l 1)) x y = false) : connC l 3 x y 0 x y = true := by
  have hr := cellB_true h3
  rw [cellB_in hr] at h0 h1 h2 h3
  have hd : gb (gd (condB l) 0) (y + 40).toNat (x + 40).toNat = true := by
    rw [cB0, gb, zipB_gd (by rw [bits_length]; omega) (by rw [bits_length]; omega)]
    have e0 : gd (bits (gd l 0)) ((y + 40).toNat * 80 + (x + 40).toNat) = true := h0
    have e1 : gd (bits (gd l 1)) ((y + 40).toNat * 80 + (x + 40).toNat) = false := h1
    rw [e0, e1]; rfl
  have := join_at (l := l) (i := 2) (k := 0) (by omega) (by omega) hr (by rw [cB2]; exact h3) hd (by rw [ly2, ly0]; exact jn_cont (by omega) (by omega) (.inl rfl) h2)
  rwa [ly2, ly0] at this
theorem join_via {l : List (List Rect)} {x y : Int} (h4 : cellB (bits (gd l 4)) x y = true) (h3 : cellB (bits (gd l 3)) x y = true) (h5 : cellB (bits (gd l 5)) x y = true) : connC l 3 x y 5 x y = true := by
  have hr := cellB_true h3
  rw [cellB_in hr] at h3 h4 h5
  have := join_at (l := l) (i := 2) (k := 3) (by omega) (by omega) hr (by rw [cB2]; exact h3) (by rw [cB3]; exact h5) (by rw [ly2, ly3]; exact jn_via (by omega) (by omega) h4)
  rwa [ly2, ly3] at this
theorem join_next {l : List (List Rect)} {x y : Int} (h : cellB (bits (gd l 3)) x y = true) (h' : cellB (bits (gd l 3)) (x + 1) y = true) : connC l 3 x y 3 (x + 1) y = true := by
  have hr := cellB_true h
  have hr' := cellB_true h'
  rw [cellB_in hr] at h
  rw [cellB_in hr'] at h'
  obtain ⟨a, ha, a1, a2, a3⟩ := piece_at (l := l) (i := 2) (by omega) (y := (y + 40).toNat) (x := (x + 40).toNat) (by omega) (by omega) (by rw [cB2]; exact h)
  rw [ly2] at a1
  exact connC_of ha ha (atB_of hr a1 a2) (atB_of hr' a1 (a3 _ _ (by omega) (by omega) (.inl ⟨rfl, .inr (by simp only; omega)⟩) (by rw [cB2]; exact h'))) rfl
end Go.Proofs.Ytilccgeldnlgnaa
