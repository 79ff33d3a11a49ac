/-
  Plain: pieces on one layer share no cell; the net at a place.
-/
import Derived.Test.YthjaopefoiploaaGreatNets
namespace Go.Proofs.YthjaopefoiploaaGreat
open Go
set_option linter.unusedSimpArgs false
set_option maxRecDepth 20000
/-! ## pieces on one layer share no cell -/
def Apart (p q : Int × List Bool) : Prop := p.1 = q.1 → ∀ y x, y < 80 → x < 80 → gb p.2 y x = true → gb q.2 y x = true → False
theorem comps_apart (S : List Bool) : (comps S).Pairwise fun c d => ∀ y x, y < 80 → x < 80 → gb c y x = true → gb d y x = true → False := by
  classical
  unfold comps
  rw [List.pairwise_map]
  refine List.Pairwise.imp_of_mem (fun {a b} ha hb hab => ?_) (firsts_sorted S 6400)
  intro y x hy hx h1 h2
  have fa : First S a := by simpa using (List.mem_filter.1 ha).2
  have fb : First S b := by simpa using (List.mem_filter.1 hb).2
  have c1 := (comp_iff hy hx).1 h1
  have c2 := (comp_iff hy hx).1 h2
  exact fb.2 a hab fa.1 (c1.trans (c2.symm fb.1))
theorem lay_ne {i n : Nat} (h : i < n) (hn : n < 4) : gd [0, 1, 3, 5] i ≠ (gd [0, 1, 3, 5] n : Int) := by
  rcases (by omega : n = 1 ∨ n = 2 ∨ n = 3) with rfl | rfl | rfl
  · obtain rfl : i = 0 := by omega
    simp [gd]
  · rcases (by omega : i = 0 ∨ i = 1) with rfl | rfl <;> simp [gd]
  · rcases (by omega : i = 0 ∨ i = 1 ∨ i = 2) with rfl | rfl | rfl <;> simp [gd]
theorem pcL_layer {l : List (List Rect)} {n : Nat} {p : Int × List Bool} (h : p ∈ pcL l n) : ∃ i, i < n ∧ p.1 = gd [0, 1, 3, 5] i := by
  obtain ⟨m, h1, h2⟩ := List.mem_flatten.1 h
  obtain ⟨i, hi, rfl⟩ := List.mem_map.1 h1
  obtain ⟨c, hc, rfl⟩ := List.mem_map.1 h2
  exact ⟨i, List.mem_range.1 hi, rfl⟩
theorem pcL_apart (l : List (List Rect)) : ∀ n, n ≤ 4 → (pcL l n).Pairwise Apart
  | 0, _ => by simp [pcL]
  | n + 1, hn => by
    rw [pcL_succ, List.pairwise_append]
    refine ⟨pcL_apart l n (by omega), ?_, ?_⟩
    · rw [List.pairwise_map]
      refine (comps_apart _).imp ?_
      intro a b h _; exact h
    · intro p hp q hq e
      exfalso
      obtain ⟨i, hi, h1⟩ := pcL_layer hp
      obtain ⟨c, hc, rfl⟩ := List.mem_map.1 hq
      exact lay_ne hi (by omega) (h1.symm.trans e)
theorem pcL_uniq {l : List (List Rect)} {i j : Nat} (hi : i < (pcL l 4).length) (hj : j < (pcL l 4).length) (e : (gd (pcL l 4) i).1 = (gd (pcL l 4) j).1) {y x : Nat} (hy : y < 80) (hx : x < 80) (h1 : gb (gd (pcL l 4) i).2 y x = true) (h2 : gb (gd (pcL l 4) j).2 y x = true) : i = j := by
  have hp := List.pairwise_iff_getElem.1 (pcL_apart l 4 (Nat.le_refl _))
  rw [gd_eq hi, gd_eq hj] at e; rw [gd_eq hi] at h1; rw [gd_eq hj] at h2
  rcases Nat.lt_trichotomy i j with c | c | c
  · exact (hp i j hi hj c e y x hy hx h1 h2).elim
  · exact c
  · exact (hp j i hj hi c e.symm y x hy hx h2 h1).elim
/-! ## cells -/
def cellB (S : List Bool) (x y : Int) : Bool := (decide (-40 ≤ x ∧ x < 40) && decide (-40 ≤ y ∧ y < 40)) && gd S ((y + 40) * 80 + x + 40).toNat
theorem cellB_in {S : List Bool} {x y : Int} (h : -40 ≤ x ∧ x < 40 ∧ -40 ≤ y ∧ y < 40) : cellB S x y = gb S (y + 40).toNat (x + 40).toNat := by
  have e : ((y + 40) * 80 + x + 40).toNat = (y + 40).toNat * 80 + (x + 40).toNat := by omega
  rw [cellB, decide_eq_true (by omega), decide_eq_true (by omega), e]; rfl
theorem cellB_out {S : List Bool} {x y : Int} (h : ¬ (-40 ≤ x ∧ x < 40 ∧ -40 ≤ y ∧ y < 40)) : cellB S x y = false := by
  rw [cellB]
  by_cases c : -40 ≤ x ∧ x < 40
  · rw [decide_eq_false (p := -40 ≤ y ∧ y < 40) (by omega)]; simp
  · rw [decide_eq_false c]; simp
theorem cellB_true {S : List Bool} {x y : Int} (h : cellB S x y = true) : -40 ≤ x ∧ x < 40 ∧ -40 ≤ y ∧ y < 40 := by
  by_cases c : -40 ≤ x ∧ x < 40 ∧ -40 ≤ y ∧ y < 40
  · exact c
  · rw [cellB_out c] at h; cases h
def rHas (r : Rect) (x y : Int) : Bool := validRect r && decide (r.x0 ≤ x) && decide (x < r.x1) && decide (r.y0 ≤ y) && decide (y < r.y1)
theorem rHas_in {r : Rect} {x y : Int} (hv : validRect r = true) (h : -40 ≤ x ∧ x < 40 ∧ -40 ≤ y ∧ y < 40) : rHas r x y = inR r (y + 40).toNat (x + 40).toNat := by
  rw [Bool.eq_iff_iff, inR_iff]
  simp only [rHas, hv, Bool.true_and, Bool.and_eq_true, decide_eq_true_eq]
  omega
theorem rHas_out {r : Rect} {x y : Int} (h : ¬ (-40 ≤ x ∧ x < 40 ∧ -40 ≤ y ∧ y < 40)) : rHas r x y = false := by
  rw [Bool.eq_false_iff]
  intro k
  simp only [rHas, Bool.and_eq_true, decide_eq_true_eq] at k
  have := validR_iff.1 k.1.1.1.1
  omega
/-- a region has a cell just if its set has it -/
theorem has_canon {c : List Bool} (hc : c.length = 6400) (x y : Int) : ((canon c).any fun r => rHas r x y) = cellB c x y := by
  by_cases h : -40 ≤ x ∧ x < 40 ∧ -40 ≤ y ∧ y < 40
  · rw [cellB_in h, ← bits_canon hc, gb_bits' _ (by omega) (by omega), bits_canon hc]
    have hv := isReg_valid (isReg_canon hc)
    rw [Bool.eq_iff_iff, List.any_eq_true, List.any_eq_true]
    constructor
    · rintro ⟨r, hr, k⟩; exact ⟨r, hr, by rw [← rHas_in (valid_mem hv hr) h]; exact k⟩
    · rintro ⟨r, hr, k⟩; exact ⟨r, hr, by rw [rHas_in (valid_mem hv hr) h]; exact k⟩
  · rw [cellB_out h, List.any_eq_false]
    intro r _; simp [rHas_out h]
theorem has_reg {r : List Rect} (hr : isReg r = true) (x y : Int) : (r.any fun r => rHas r x y) = cellB (bits r) x y := by
  have := has_canon (bits_length r) x y
  rwa [isReg_eq hr] at this
/-! ## the net at a place -/
def atB (n x y : Int) (p : Int × List Bool) : Bool := decide (p.1 = n) && cellB p.2 x y
def atR (n x y : Int) (p : Int × List Rect) : Bool := decide (p.1 = n) && p.2.any fun r => rHas r x y
theorem atR_pcR {n x y : Int} {p : Int × List Bool} (h : p.2.length = 6400) : atR n x y (pcR p) = atB n x y p := by
  rw [atR, atB, pcR, has_canon h]
theorem atB_uniq {l : List (List Rect)} {n x y : Int} {i j : Nat} (hi : i < (pcL l 4).length) (hj : j < (pcL l 4).length) (h1 : atB n x y (gd (pcL l 4) i) = true) (h2 : atB n x y (gd (pcL l 4) j) = true) : i = j := by
  simp only [atB, Bool.and_eq_true, decide_eq_true_eq] at h1 h2
  have hr := cellB_true h1.2
  rw [cellB_in hr] at h1 h2
  exact pcL_uniq hi hj (h1.1.trans h2.1.symm) (by omega) (by omega) h1.2 h2.2
/-- the number of the net of the first piece at a place -/
noncomputable def findL (l : List (List Rect)) (n x y : Int) : Int :=
  match (pcL l 4).findIdx? (atB n x y) with
  | some i => numR (clsL l) i
  | none => -1
theorem findL_at {l : List (List Rect)} {n x y : Int} {i : Nat} (hi : i < (pcL l 4).length) (h : atB n x y (gd (pcL l 4) i) = true) : findL l n x y = numR (clsL l) i := by
  have : (pcL l 4).findIdx? (atB n x y) = some i := by
    rw [List.findIdx?_eq_some_iff_getElem]
    refine ⟨hi, by rwa [gd_eq hi] at h, fun j hj hp => ?_⟩
    have := atB_uniq (i := j) (by omega) hi (by rw [gd_eq (by omega)]; exact hp) h
    omega
  rw [findL, this]
theorem findL_none {l : List (List Rect)} {n x y : Int} (h : ∀ i, i < (pcL l 4).length → atB n x y (gd (pcL l 4) i) = false) : findL l n x y = -1 := by
  have : (pcL l 4).findIdx? (atB n x y) = none := by
    rw [List.findIdx?_eq_none_iff]
    intro p hp
    obtain ⟨j, hj, rfl⟩ := List.getElem_of_mem hp
    rw [← gd_eq hj]; exact h j hj
  rw [findL, this]
theorem netL_gd {l : List (List Rect)} {k : Nat} (h : k < netN l) : gd (netL l) k = ((List.range (pcL l 4).length).filter fun j => decide (numR (clsL l) j = k)).map fun j => pcR (gd (pcL l 4) j) := by
  rw [netL, netsP_gd h]
  apply List.map_congr_left
  intro j hj
  have := List.mem_range.1 (List.mem_filter.1 hj).1
  exact gd_map _ this
theorem netAt_eq (l : List (List Rect)) (n x y : Int) : idxI (fun net => net.any (atR n x y)) (netL l) = findL l n x y := by
  have hnet : ∀ k, k < netN l → ((gd (netL l) k).any (atR n x y) = true ↔ ∃ j, j < (pcL l 4).length ∧ numR (clsL l) j = k ∧ atB n x y (gd (pcL l 4) j) = true) := fun k hk => by
    rw [netL_gd hk, List.any_map, List.any_eq_true]
    constructor
    · rintro ⟨j, hj, h⟩
      have h1 := List.mem_range.1 (List.mem_filter.1 hj).1
      have h2 := (List.mem_filter.1 hj).2
      exact ⟨j, h1, by simpa using h2, by rw [← atR_pcR (pcL_mem (n := 4) (l := l) (by rw [gd_eq h1]; exact List.getElem_mem h1))]; exact h⟩
    · rintro ⟨j, h1, h2, h3⟩
      exact ⟨j, List.mem_filter.2 ⟨List.mem_range.2 h1, by simpa using h2⟩, by
        show atR n x y (pcR (gd (pcL l 4) j)) = true
        rw [atR_pcR (pcL_mem (n := 4) (l := l) (by rw [gd_eq h1]; exact List.getElem_mem h1))]; exact h3⟩
  by_cases c : ∃ i, i < (pcL l 4).length ∧ atB n x y (gd (pcL l 4) i) = true
  · obtain ⟨i, hi, h⟩ := c
    have hk := numR_lt (clsL_rt l) (i := i) (m := (pcL l 4).length) (by rw [clsL_len]; exact hi) hi
    rw [findL_at hi h, idxI_at (i := numR (clsL l) i) (by rw [netL_len]; exact hk) ((hnet _ hk).2 ⟨i, hi, rfl, h⟩) fun j hj => ?_]
    cases hb : (gd (netL l) j).any (atR n x y) with
    | false => rfl
    | true =>
      obtain ⟨m, h1, h2, h3⟩ := (hnet j (by have : cntR (clsL l) (pcL l 4).length = netN l := rfl
                                            omega)).1 hb
      have := atB_uniq h1 hi h3 h
      subst this; omega
  · have h : ∀ i, i < (pcL l 4).length → atB n x y (gd (pcL l 4) i) = false := fun i hi => by
      cases hb : atB n x y (gd (pcL l 4) i) with
      | false => rfl
      | true => exact absurd ⟨i, hi, hb⟩ c
    rw [findL_none h]
    exact idxI_none fun k hk => by
      rw [netL_len] at hk
      cases hb : (gd (netL l) k).any (atR n x y) with
      | false => rfl
      | true =>
        obtain ⟨m, h1, h2, h3⟩ := (hnet k hk).1 hb
        rw [h m h1] at h3; cases h3
end Go.Proofs.YthjaopefoiploaaGreat
