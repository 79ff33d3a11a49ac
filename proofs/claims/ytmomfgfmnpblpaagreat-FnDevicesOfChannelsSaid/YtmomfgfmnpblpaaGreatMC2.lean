/-
  The law FnDevicesOfChannels: whatever the code, the law returns true and the code reads as before.
-/
import Derived.Test.YtmomfgfmnpblpaaGreatMC1
import Derived.Test.YtmomfgfmnpblpaaGreatRows
namespace Go.Proofs.YtmomfgfmnpblpaaGreat
set_option linter.unusedVariables false
set_option linter.unusedSimpArgs false
open Go
set_option linter.unusedSimpArgs false
set_option maxRecDepth 20000
theorem piece_at {l : List (List Rect)} {i : Nat} (hi : i < 4) {y x : Nat} (hy : y < 80) (hx : x < 80) (h : gb (gd (condB l) i) y x = true) :
    ∃ j, j < (pcL l 4).length ∧ (gd (pcL l 4) j).1 = gd [0, 1, 3, 5] i ∧ gb (gd (pcL l 4) j).2 y x = true ∧ ∀ y' x', y' < 80 → x' < 80 → Adj (y, x) (y', x') → gb (gd (condB l) i) y' x' = true → gb (gd (pcL l 4) j).2 y' x' = true := by
  have hc := comps_cover (S := gd (condB l) i) hy hx
  rw [h, List.any_eq_true] at hc
  obtain ⟨c, hc, hg⟩ := hc
  have hm : ((gd [0, 1, 3, 5] i, c) : Int × List Bool) ∈ pcL l 4 := by
    rw [pcL, List.mem_flatten]
    exact ⟨_, List.mem_map.2 ⟨i, List.mem_range.2 hi, rfl⟩, List.mem_map.2 ⟨c, hc, rfl⟩⟩
  obtain ⟨j, hj, e⟩ := List.getElem_of_mem hm
  refine ⟨j, hj, ?_⟩
  rw [gd_eq hj, e]
  refine ⟨rfl, hg, fun y' x' hy' hx' ha hs => ?_⟩
  obtain ⟨j0, _, rfl⟩ := List.mem_map.1 hc
  exact (comp_iff hy' hx').2 (((comp_iff hy hx).1 hg).step ha ⟨hy', hx', hs⟩)
noncomputable def connC (l : List (List Rect)) (n x y m x' y' : Int) : Bool := decide (0 ≤ findL l n x y) && decide (findL l n x y = findL l m x' y')
theorem connC_of {l : List (List Rect)} {n x y m x' y' : Int} {i j : Nat} (hi : i < (pcL l 4).length) (hj : j < (pcL l 4).length) (h1 : atB n x y (gd (pcL l 4) i) = true) (h2 : atB m x' y' (gd (pcL l 4) j) = true) (h : numR (clsL l) i = numR (clsL l) j) : connC l n x y m x' y' = true := by
  rw [connC, findL_at hi h1, findL_at hj h2, h]
  simp
theorem atB_of {n x y : Int} {p : Int × List Bool} (hr : -40 ≤ x ∧ x < 40 ∧ -40 ≤ y ∧ y < 40) (h1 : p.1 = n) (h2 : gb p.2 (y + 40).toNat (x + 40).toNat = true) : atB n x y p = true := by
  rw [atB, cellB_in hr, h2, decide_eq_true h1]; rfl
theorem join_at {l : List (List Rect)} {i k : Nat} (hi : i < 4) (hk : k < 4) {x y : Int} (hr : -40 ≤ x ∧ x < 40 ∧ -40 ≤ y ∧ y < 40) (h1 : gb (gd (condB l) i) (y + 40).toNat (x + 40).toNat = true) (h2 : gb (gd (condB l) k) (y + 40).toNat (x + 40).toNat = true)
    (hj : ∀ p q : Int × List Bool, p.1 = gd [0, 1, 3, 5] i → q.1 = gd [0, 1, 3, 5] k → gb p.2 (y + 40).toNat (x + 40).toNat = true → gb q.2 (y + 40).toNat (x + 40).toNat = true → jnL l p q = true) : connC l (gd [0, 1, 3, 5] i) x y (gd [0, 1, 3, 5] k) x y = true := by
  obtain ⟨a, ha, a1, a2, _⟩ := piece_at hi (by omega) (by omega) h1
  obtain ⟨b, hb, b1, b2, _⟩ := piece_at hk (by omega) (by omega) h2
  exact connC_of ha hb (atB_of hr a1 a2) (atB_of hr b1 b2) (numR_join ha hb (hj _ _ a1 b1 a2 b2))
theorem jn_cont {l : List (List Rect)} {y x : Nat} (hy : y < 80) (hx : x < 80) {n : Int} (hn : n = 0 ∨ n = 1) (hc : gb (bits (gd l 2)) y x = true) (p q : Int × List Bool) (h1 : p.1 = 3) (h2 : q.1 = n) (h3 : gb p.2 y x = true) (h4 : gb q.2 y x = true) : jnL l p q = true := by
  have hm : mt p.2 q.2 (bits (gd l 2)) = true := mt_iff.2 ⟨y, x, hy, hx, h3, h4, hc⟩
  rw [jnL, jnR_eq, hm, h1, h2]
  rcases hn with rfl | rfl <;> simp
theorem jn_via {l : List (List Rect)} {y x : Nat} (hy : y < 80) (hx : x < 80) (hc : gb (bits (gd l 4)) y x = true) (p q : Int × List Bool) (h1 : p.1 = 3) (h2 : q.1 = 5) (h3 : gb p.2 y x = true) (h4 : gb q.2 y x = true) : jnL l p q = true := by
  have hm : mt p.2 q.2 (bits (gd l 4)) = true := mt_iff.2 ⟨y, x, hy, hx, h3, h4, hc⟩
  rw [jnL, jnR_eq, hm, h1, h2]
  simp
theorem cB0 (l : List (List Rect)) : gd (condB l) 0 = zipB (fun p q => p && !q) (bits (gd l 0)) (bits (gd l 1)) := by simp [condB, gd]
theorem cB1 (l : List (List Rect)) : gd (condB l) 1 = bits (gd l 1) := by simp [condB, gd]
theorem cB2 (l : List (List Rect)) : gd (condB l) 2 = bits (gd l 3) := by simp [condB, gd]
theorem cB3 (l : List (List Rect)) : gd (condB l) 3 = bits (gd l 5) := by simp [condB, gd]
theorem ly0 : gd ([0, 1, 3, 5] : List Int) 0 = 0 := by simp [gd]
theorem ly1 : gd ([0, 1, 3, 5] : List Int) 1 = 1 := by simp [gd]
theorem ly2 : gd ([0, 1, 3, 5] : List Int) 2 = 3 := by simp [gd]
theorem ly3 : gd ([0, 1, 3, 5] : List Int) 3 = 5 := by simp [gd]
theorem join_poly {l : List (List Rect)} {x y : Int} (h3 : cellB (bits (gd l 3)) x y = true) (h2 : cellB (bits (gd l 2)) x y = true) (h1 : cellB (bits (gd l 1)) x y = true) : connC l 3 x y 1 x y = true := by
  have hr := cellB_true h3
  rw [cellB_in hr] at h1 h2 h3
  have := join_at (l := l) (i := 2) (k := 1) (by omega) (by omega) hr (by rw [cB2]; exact h3) (by rw [cB1]; exact h1) (by rw [ly2, ly1]; exact jn_cont (by omega) (by omega) (.inr rfl) h2)
  rwa [ly2, ly1] at this
theorem join_diff {l : List (List Rect)} {x y : Int} (h3 : cellB (bits (gd l 3)) x y = true) (h2 : cellB (bits (gd l 2)) x y = true) (h0 : cellB (bits (gd l 0)) x y = true) (h1 : cellB (bits (gd l 1)) x y = false) : connC l 3 x y 0 x y = true := by
  have hr := cellB_true h3
  rw [cellB_in hr] at h0 h1 h2 h3
  have hd : gb (gd (condB l) 0) (y + 40).toNat (x + 40).toNat = true := by
    rw [cB0, gb, zipB_gd (by rw [bits_length]; omega) (by rw [bits_length]; omega)]
    have e0 : gd (bits (gd l 0)) ((y + 40).toNat * 80 + (x + 40).toNat) = true := h0
    have e1 : gd (bits (gd l 1)) ((y + 40).toNat * 80 + (x + 40).toNat) = false := h1
    rw [e0, e1]; rfl
  have := join_at (l := l) (i := 2) (k := 0) (by omega) (by omega) hr (by rw [cB2]; exact h3) hd (by rw [ly2, ly0]; exact jn_cont (by omega) (by omega) (.inl rfl) h2)
  rwa [ly2, ly0] at this
theorem join_via {l : List (List Rect)} {x y : Int} (h4 : cellB (bits (gd l 4)) x y = true) (h3 : cellB (bits (gd l 3)) x y = true) (h5 : cellB (bits (gd l 5)) x y = true) : connC l 3 x y 5 x y = true := by
  have hr := cellB_true h3
  rw [cellB_in hr] at h3 h4 h5
  have := join_at (l := l) (i := 2) (k := 3) (by omega) (by omega) hr (by rw [cB2]; exact h3) (by rw [cB3]; exact h5) (by rw [ly2, ly3]; exact jn_via (by omega) (by omega) h4)
  rwa [ly2, ly3] at this
theorem join_next {l : List (List Rect)} {x y : Int} (h : cellB (bits (gd l 3)) x y = true) (h' : cellB (bits (gd l 3)) (x + 1) y = true) : connC l 3 x y 3 (x + 1) y = true := by
  have hr := cellB_true h
  have hr' := cellB_true h'
  rw [cellB_in hr] at h
  rw [cellB_in hr'] at h'
  obtain ⟨a, ha, a1, a2, a3⟩ := piece_at (l := l) (i := 2) (by omega) (y := (y + 40).toNat) (x := (x + 40).toNat) (by omega) (by omega) (by rw [cB2]; exact h)
  rw [ly2] at a1
  exact connC_of ha ha (atB_of hr a1 a2) (atB_of hr' a1 (a3 _ _ (by omega) (by omega) (.inl ⟨rfl, .inr (by simp only; omega)⟩) (by rw [cB2]; exact h'))) rfl
end Go.Proofs.YtmomfgfmnpblpaaGreat
namespace Go.Proofs.YtmomfgfmnpblpaaGreat
set_option linter.unusedVariables false
set_option linter.unusedSimpArgs false
open Go
set_option maxRecDepth 20000
set_option linter.unusedSimpArgs false
variable {G : Gh} {L : List Ch} {R : Value → Gh → List Ch → Prop}
/-- the cells of a value that is told by an equation -/
theorem Cl.e {v u : Value} {cs : List Value} (e : v = u) (h : u.cells.toList = cs) : Cl G L v cs := fun _ _ => by rw [e]; exact h
theorem cntF_full {f : Nat → Bool} : ∀ {n : Nat}, cntF f n = (n : Int) → ∀ k, k < n → f k = true
  | 0, _, k, h => by omega
  | n + 1, h, k, hk => by
    rw [cntF_succ] at h
    have h1 := cntF_bd f n
    have h2 := one_nn (f n)
    have h3 : one (f n) = 1 := by omega
    by_cases e : k = n
    · subst e
      cases hf : f k with
      | true => rfl
      | false => rw [hf] at h3; simp [one] at h3
    · exact cntF_full (n := n) (by omega) k (by omega)
theorem findL_pos {l : List (List Rect)} {x y : Int} (h : cellB (gd (condB l) 0) x y = true) : 0 ≤ findL l 0 x y := by
  have hr := cellB_true h
  rw [cellB_in hr] at h
  obtain ⟨j, hj, h1, h2, _⟩ := piece_at (l := l) (i := 0) (by omega) (by omega) (by omega) h
  rw [ly0] at h1
  rw [findL_at hj (atB_of hr h1 h2)]; omega
theorem pcL_in {l : List (List Rect)} {j : Nat} (hj : j < (pcL l 4).length) : ∃ i, i < 4 ∧ (gd (pcL l 4) j).1 = gd [0, 1, 3, 5] i ∧ (gd (pcL l 4) j).2 ∈ comps (gd (condB l) i) := by
  have hm : gd (pcL l 4) j ∈ pcL l 4 := gd_mem hj
  generalize gd (pcL l 4) j = p at hm ⊢
  rw [pcL, List.mem_flatten] at hm
  obtain ⟨q, hq, hm⟩ := hm
  obtain ⟨i, hi, rfl⟩ := List.mem_map.1 hq
  obtain ⟨c, hc, e⟩ := List.mem_map.1 hm
  exact ⟨i, List.mem_range.1 hi, by rw [← e], by rw [← e]; exact hc⟩
theorem findL_neg {l : List (List Rect)} {x y : Int} (h : cellB (bits (gd l 1)) x y = true) : findL l 0 x y = -1 := by
  have hr := cellB_true h
  rw [cellB_in hr] at h
  refine findL_none fun j hj => ?_
  cases ha : atB 0 x y (gd (pcL l 4) j) with
  | false => rfl
  | true =>
    exfalso
    simp only [atB, Bool.and_eq_true, decide_eq_true_eq] at ha
    obtain ⟨i, hi, e1, e2⟩ := pcL_in hj
    have h2 := ha.2
    rw [cellB_in hr] at h2
    have hi0 : i = 0 := by
      rw [ha.1] at e1
      match i, hi with
      | 0, _ => rfl
      | 1, _ => rw [ly1] at e1; cases e1
      | 2, _ => rw [ly2] at e1; cases e1
      | 3, _ => rw [ly3] at e1; cases e1
    subst hi0
    have hc := comps_cover (S := gd (condB l) 0) (y := (y + 40).toNat) (x := (x + 40).toNat) (by omega) (by omega)
    rw [List.any_eq_true.2 ⟨_, e2, h2⟩, cB0, gb, zipB_gd (by rw [bits_length]; omega) (by rw [bits_length]; omega)] at hc
    have e0 : gd (bits (gd l 1)) ((y + 40).toNat * 80 + (x + 40).toNat) = true := h
    rw [e0] at hc; simp at hc
theorem part_poly {l : List (List Rect)} {g : List Rect} (hg : g ∈ partsC l) : cellB (bits (gd l 1)) (gd g 0).x0 (gd g 0).y0 = true := by
  have hn := partsC_ne hg
  have hv := validR_iff.1 (valid_first hn.1 hn.2)
  rw [partsC, partsL] at hg
  obtain ⟨c, hc, rfl⟩ := List.mem_map.1 hg
  have hcl : c.length = 6400 := by
    obtain ⟨j0, _, rfl⟩ := List.mem_map.1 hc
    exact compB_len _ _
  have h1 : gb (bits (canon c)) ((gd (canon c) 0).y0 + 40).toNat ((gd (canon c) 0).x0 + 40).toNat = true :=
    (gb_bits_iff (by omega) (by omega)).2 ⟨gd (canon c) 0, gd_mem hn.1, inR_iff.2 (by omega)⟩
  rw [bits_canon hcl] at h1
  have h2 := comps_cover (S := regC l) (y := ((gd (canon c) 0).y0 + 40).toNat) (x := ((gd (canon c) 0).x0 + 40).toNat) (by omega) (by omega)
  rw [List.any_eq_true.2 ⟨_, hc, h1⟩, regC, gb, zipB_gd (by rw [bits_length]; omega) (by rw [bits_length]; omega)] at h2
  rw [cellB_in (by omega), gb]
  simp only [Bool.true_eq, Bool.and_eq_true] at h2
  exact h2.2
/-- the sides of a channel -/
theorem chan_sides {l : List (List Rect)} {c : Chan} (h : c ∈ chans l) : cellB (gd (condB l) 0) (srcP c.box (!c.hor)).x (srcP c.box (!c.hor)).y = true ∧ cellB (gd (condB l) 0) (drnP c.box (!c.hor)).x (drnP c.box (!c.hor)).y = true ∧ cellB (bits (gd l 1)) c.box.x0 c.box.y0 = true := by
  obtain ⟨g, hg, hi, rfl⟩ := chans_mem h
  have hn := partsC_ne hg
  have hv := validR_iff.1 (valid_first hn.1 hn.2)
  have hk := chan_kind hn.1 hn.2 hi
  refine ⟨?_, ?_, part_poly hg⟩
  all_goals
    have hf : chF l g = flowB (difC l) (gd g 0) := by rw [chF, if_pos hk.1]
    have h0 := hk.2.2.2
    simp only [mkCh]
    rw [hf] at h0 ⊢
    have hw : (wR (gd g 0) : Int) = (gd g 0).x1 - (gd g 0).x0 := by simp only [wR]; omega
    have hh : (hR (gd g 0) : Int) = (gd g 0).y1 - (gd g 0).y0 := by simp only [hR]; omega
    unfold flowB flowI at h0 ⊢
    split at h0
    · rename_i q
      rw [if_pos q]
      have q1 := cntF_full (q.1.trans hh.symm) 0 (by omega)
      have q2 := cntF_full (q.2.1.trans hh.symm) 0 (by omega)
      simp only [Int.natCast_zero, Int.add_zero, Int.cast_ofNat_Int] at q1 q2
      simp [srcP, drnP]
      first | exact q1 | exact q2
    · rename_i q
      rw [if_neg q]
      split at h0
      · rename_i q'
        rw [if_pos q']
        have q1 := cntF_full (q'.2.2.1.trans hw.symm) 0 (by omega)
        have q2 := cntF_full (q'.2.2.2.trans hw.symm) 0 (by omega)
        simp only [Int.natCast_zero, Int.add_zero, Int.cast_ofNat_Int] at q1 q2
        simp [srcP, drnP]
        first | exact q1 | exact q2
      · omega
theorem sameInts_s {v u : Value} {xs ys : List Int} (h1 : Rs G L intT v xs) (h2 : Rs G L intT u ys) (k : R (.bool (decide (xs = ys))) G L) : CallT Tryz.prog 33 #[v, u] G L R := by
  refine CallT.bd h1 fun hb => ?_
  refine CallT.bd h2 fun hb' => ?_
  refine CallT.enter (args := _) Tryz.func33 rfl rfl (by kernel_rfl) rfl ?_
  refine WP.seq ?_
  refine WP.region ?_
  refine RG.pv rfl (PV.mvB (.inr rfl) rfl) ?_
  refine RG.nil ?_
  refine WP.seq ?_
  refine WP.seq ?_
  refine WP.region ?_
  refine RG.pv rfl (PV.move (v := v) rfl rfl) ?_
  refine RG.pv rfl (PV.len (v := v) rfl Tryz.underlying26 rfl (SlF.r h1)) ?_
  refine RG.pv rfl (PV.move (v := u) rfl rfl) ?_
  refine RG.pv rfl (PV.len (v := u) rfl Tryz.underlying26 rfl (SlF.r h2)) ?_
  refine RG.pv rfl (PV.neq rfl rfl rfl) ?_
  refine RG.nil ?_
  refine WP.cond rfl (fun h3 => ?_) (fun h3 => ?_)
  · have e : decide (xs = ys) = false := by
      rw [decide_eq_false_iff_not]; rintro rfl; simp at h3
    rw [e] at k
    refine WP.seq ?_
    refine WP.region ?_
    refine RG.pv rfl (PV.mvB (.inr rfl) rfl) ?_
    refine RG.nil ?_
    refine WP.ret ?_
    exact ⟨_, _, ResV.one rfl rfl, Cv.p, k⟩
  · have hl : xs.length = ys.length := by simp at h3; omega
    refine WP.skip ?_
    refine WP.seq ?_
    refine WP.seq ?_
    refine WP.region ?_
    refine RG.pv rfl (PV.mvI (.inr rfl) rfl) ?_
    refine RG.nil ?_
    refine WP.block ?_
    refine WP.loop1 [0, 1] (fun i => i ≤ xs.length ∧ ∀ j, j < i → xs[j]? = ys[j]?) (fun i => [(5, vi i)]) (fun i => L) (fun i => xs.length - i) 0 ⟨by omega, fun j h => by omega⟩ ⟨rfl, trivial⟩ Cv.p ?_
    rintro i τ ⟨hi, he⟩
    refine WP.seq ?_
    refine WP.seq ?_
    refine WP.region ?_
    refine RG.pv rfl (PV.mvI (.inl rfl) rfl) ?_
    refine RG.pv rfl (PV.move (v := v) rfl rfl) ?_
    refine RG.pv rfl (PV.len (v := v) rfl Tryz.underlying26 rfl (SlF.r h1)) ?_
    refine RG.pv rfl (PV.lss rfl rfl rfl) ?_
    refine RG.nil ?_
    refine WP.cond rfl (fun h4 => ?_) (fun h4 => ?_)
    · have h4 := of_decide_eq_true h4
      have h5 : i < xs.length := by omega
      refine WP.skip ?_
      refine WP.seq ?_
      refine WP.block ?_
      refine WP.seq ?_
      refine WP.regionQ (by kernel_rfl) (by kernel_rfl) ?_
      refine RQ.pv rfl (PV.move (v := v) rfl rfl) ?_
      refine RQ.pv rfl (PV.mvI (.inl rfl) rfl) ?_
      refine RQ.pv rfl (PV.idxS (v := v) rfl Is26 rfl (SlF.r h1) rfl rfl (by omega)) ?_
      refine RQ.pv rfl (PV.loadE1 rfl Sc2 rfl rfl (El.r h1 (getG (by omega))) rfl) ?_
      refine RQ.pv rfl (PV.move (v := u) rfl rfl) ?_
      refine RQ.pv rfl (PV.mvI (.inl rfl) rfl) ?_
      refine RQ.pv rfl (PV.idxS (v := u) rfl Is26 rfl (SlF.r h2) rfl rfl (by omega)) ?_
      refine RQ.pv rfl (PV.loadE1 rfl Sc2 rfl rfl (El.r h2 (getG (by omega))) rfl) ?_
      refine RQ.pv rfl (PV.neq rfl rfl rfl) ?_
      refine RQ.nil ?_
      refine WP.cond rfl (fun h6 => ?_) (fun h6 => ?_)
      · have e : decide (xs = ys) = false := by
          rw [decide_eq_false_iff_not]; rintro rfl; simp at h6
        rw [e] at k
        refine WP.seq ?_
        refine WP.region ?_
        refine RG.pv rfl (PV.mvB (.inr rfl) rfl) ?_
        refine RG.nil ?_
        refine WP.ret ?_
        exact ⟨_, _, ResV.one rfl rfl, Cv.p, k⟩
      · have e : gd xs i = gd ys i := by simpa using h6
        have he' : ∀ j, j < i + 1 → xs[j]? = ys[j]? := fun j h => by
          by_cases c : j = i
          · rw [c, getG h5, getG (show i < ys.length by omega), e]
          · exact he j (by omega)
        refine WP.skip ?_
        refine WP.region ?_
        refine RG.pv rfl (PV.mvI (.inl rfl) rfl) ?_
        refine RG.pv rfl (PV.add rfl rfl rfl (by omega)) ?_
        refine RG.pv rfl (PV.mvI (.inr rfl) rfl) ?_
        refine RG.nil ?_
        exact ⟨rfl, i + 1, ⟨by omega, he'⟩, ⟨rfl, trivial⟩, ⟨rfl, rfl, trivial⟩, Cv.p, by omega⟩
    · have h4 := of_decide_eq_false h4
      have e : decide (xs = ys) = true := by
        rw [decide_eq_true_iff]; exact pre_eq he hl (by omega)
      rw [e] at k
      refine WP.exit ?_
      refine WP.seq ?_
      refine WP.region ?_
      refine RG.pv rfl (PV.mvB (.inr rfl) rfl) ?_
      refine RG.nil ?_
      refine WP.ret ?_
      exact ⟨_, _, ResV.one rfl rfl, Cv.p, k⟩
theorem devC_zero {l : List (List Rect)} (h : devC l = 0) : netE l = 0 ∧ isLay l = true ∧ devR l = (chans l).map (devOf l) := by
  have hn : netE l = 0 := by
    unfold devC at h; split at h
    · assumption
    · exact h
  exact ⟨hn, (netE_ok hn).1, by rw [devR, if_pos h]⟩
/-- what is told of the device of a channel -/
theorem dev_facts {l : List (List Rect)} (h : devC l = 0) {c : Chan} (hc : c ∈ chans l) : sizeE l c.box = sizeC c ∧ kindE l c.box = c.kind ∧ pinE l c.box = 0 ∧ pinR l c.box = pinsL l c.box (!c.hor) ∧ gd (pinR l c.box) 0 = atN l 1 c.box.x0 c.box.y0 ∧ atN l 0 c.box.x0 c.box.y0 = -1 ∧ 0 ≤ gd (pinR l c.box) 1 ∧ 0 ≤ gd (pinR l c.box) 2 ∧ (pinR l c.box).length = 3 := by
  obtain ⟨hn, hl, _⟩ := devC_zero h
  have he := chanE_mem hl hc
  have hs := sizeE_eq l c.box
  have hk := kindE_eq l c.box
  rw [he] at hs hk
  obtain ⟨s1, s2, s3⟩ := chan_sides hc
  have hr : pinR l c.box = pinsL l c.box (!c.hor) := by rw [pinR, if_pos hn, he]
  refine ⟨hs, hk, by rw [pinE, if_pos hn, he], hr, ?_, ?_, ?_, ?_, ?_⟩
  · rw [hr, atN, if_pos hn]; simp [pinsL, gd]
  · rw [atN, if_pos hn]; exact findL_neg s3
  · rw [hr]; simp only [pinsL, gd, List.getElem?_cons_succ, List.getElem?_cons_zero, Option.getD_some]; exact findL_pos s1
  · rw [hr]; simp only [pinsL, gd, List.getElem?_cons_succ, List.getElem?_cons_zero, Option.getD_some]; exact findL_pos s2
  · rw [hr]; rfl
theorem law_DevicesOfChannels {cv : Value} {bs : List UInt8} (hcode : SL G byteT cv bs) (k : R (.bool true) G L) : CallT Tryz.prog 5 #[cv] G L R := by
  refine CallT.enter (args := _) Tryz.func5 rfl rfl (by kernel_rfl) rfl ?_
  refine WP.seq ?_
  refine WP.region ?_
  refine RG.pv rfl (PV.mvB (.inr rfl) rfl) ?_
  refine RG.nil ?_
  refine WP.seq ?_
  refine WP.seq ?_
  refine WP.region ?_
  refine RG.pv rfl (PV.move (v := cv) rfl rfl) ?_
  refine RG.callF (vs := [cv]) rfl rfl En22 rfl (big_s hcode ?_)
  refine RG.nil ?_
  refine WP.cond rfl (fun h1 => ?_) (fun h1 => ?_)
  · refine WP.seq ?_
    refine WP.region ?_
    refine RG.pv rfl (PV.mvB (.inr rfl) rfl) ?_
    refine RG.nil ?_
    refine WP.ret ?_
    exact ⟨_, _, ResV.one rfl rfl, Cv.p, k⟩
  · refine WP.skip ?_
    refine WP.seq ?_
    refine WP.region ?_
    refine RG.pv rfl (PV.move (v := cv) rfl rfl) ?_
    refine RG.callF (vs := [cv]) rfl rfl En27 rfl (drawDevices_s hcode (fun v18 v0 xs ys hxs hmem hxl => ?_))
    refine RG.pv rfl (PV.asg (v := v18) rfl rfl) ?_
    refine RG.nil ?_
    refine WP.seq ?_
    refine WP.region ?_
    refine RG.pv rfl (PV.move (v := v18) rfl rfl) ?_
    refine RG.callF (vs := [v18]) rfl rfl En28 rfl (devices_i (Rs.up hxs) (drawn_hd (v0 := v0) (e := 61) (e' := 56) hmem).up (fun w21 dsw21 hzw21 => ?_))
    refine RG.pv rfl (PV.move (v := .tuple _) rfl rfl) ?_
    refine RG.pv rfl (PV.ext (v := w21) rfl rfl rfl) ?_
    refine RG.pv rfl (PV.ext rfl rfl rfl) ?_
    refine RG.pv rfl (PV.asg (v := w21) rfl rfl) ?_
    refine RG.pv rfl (PV.mvI (.inr rfl) rfl) ?_
    refine RG.nil ?_
    refine WP.seq ?_
    refine WP.seq ?_
    refine WP.region ?_
    refine RG.pv rfl (PV.mvI (.inl rfl) rfl) ?_
    refine RG.pv rfl (PV.neq rfl rfl rfl) ?_
    refine RG.nil ?_
    refine WP.cond rfl (fun h2 => ?_) (fun h2 => ?_)
    · have h3 : devC (er xs) ≠ 0 := by simpa using h2
      have e : devR (er xs) = [] := by rw [devR, if_neg h3]
      rw [e] at hzw21
      have e2 : dsw21 = [] := by simpa using hzw21
      subst e2
      refine WP.seq ?_
      refine WP.region ?_
      refine RG.pv rfl (PV.move (v := w21) rfl rfl) ?_
      refine RG.pv rfl (PV.len (v := w21) rfl Tryz.underlying53 rfl SlF.o) ?_
      refine RG.pv rfl (PV.eql rfl rfl rfl) ?_
      refine RG.pv rfl (PV.mvB (.inr rfl) rfl) ?_
      refine RG.nil ?_
      refine WP.ret ?_
      exact ⟨_, _, ResV.one rfl rfl, Cv.p, k⟩
    · have h3 : devC (er xs) = 0 := by simpa using h2
      obtain ⟨hn, hlay, hdr⟩ := devC_zero h3
      have hbx := boxes_ch hlay
      have hcb := chans_len (er xs)
      have hbl : (boxesE (er xs)).length = (chans (er xs)).length := by rw [hbx, List.length_map]
      have hdl : dsw21.length = (chans (er xs)).length := by have := congrArg List.length hzw21; rw [hdr] at this; simpa using this
      refine WP.skip ?_
      refine WP.seq ?_
      refine WP.region ?_
      refine RG.pv rfl (PV.move (v := v18) rfl rfl) ?_
      refine RG.callF (vs := [v18]) rfl rfl En29 rfl (channels_i (Rs.up hxs) (drawn_hd (v0 := v0) (e := 61) (e' := 56) hmem).up (fun v30 => ?_))
      refine RG.pv rfl (PV.asg (v := v30) rfl rfl) ?_
      refine RG.nil ?_
      refine WP.seq ?_
      refine WP.region ?_
      refine RG.pv rfl (PV.move (v := v18) rfl rfl) ?_
      refine RG.callF (vs := [v18]) rfl rfl En30 rfl (devices_r (Rs.up hxs) (drawn_hd (v0 := v0) (e := 61) (e' := 56) hmem).up (fun w33 dsw33 hzw33 => ?_))
      refine RG.pv rfl (PV.move (v := .tuple _) rfl rfl) ?_
      refine RG.pv rfl (PV.ext (v := w33) rfl rfl rfl) ?_
      refine RG.pv rfl (PV.ext rfl rfl rfl) ?_
      refine RG.pv rfl (PV.asg (v := w33) rfl rfl) ?_
      refine RG.pv rfl (PV.mvI (.inr rfl) rfl) ?_
      refine RG.nil ?_
      refine WP.seq ?_
      refine WP.seq ?_
      refine WP.region ?_
      refine RG.pv rfl (PV.move (v := v30) rfl rfl) ?_
      refine RG.pv rfl (PV.len (v := v30) rfl Tryz.underlying56 rfl SlF.o) ?_
      refine RG.pv rfl (PV.move (v := w21) rfl rfl) ?_
      refine RG.pv rfl (PV.len (v := w21) rfl Tryz.underlying53 rfl SlF.o) ?_
      refine RG.pv rfl (PV.neq rfl rfl rfl) ?_
      refine RG.pv rfl (PV.mvB (.inl rfl) rfl) ?_
      refine RG.gs rfl rfl rfl (fun hp => (PV.move (v := w33) rfl rfl)) ?_
      refine RG.gs rfl rfl rfl (fun hp => (PV.len (v := w33) rfl Tryz.underlying53 (gs_t hp) SlF.o)) ?_
      refine RG.gs rfl rfl rfl (fun hp => (PV.move (v := w21) rfl rfl)) ?_
      refine RG.gs rfl rfl rfl (fun hp => (PV.len (v := w21) rfl Tryz.underlying53 (gs_t hp) SlF.o)) ?_
      refine RG.gs rfl rfl rfl (fun hp => (PV.neq rfl (gs_t hp) (gs_t hp))) ?_
      refine RG.pv rfl (PV.pickO rfl rfl rfl (fun hq => gs_t (geqF hq))) ?_
      refine RG.nil ?_
      have hdl2 : dsw33.length = (chans (er xs)).length := by have := congrArg List.length hzw33; rw [hdr] at this; simpa using this
      refine WP.cond rfl (fun h4 => ?_) (fun h4 => ?_)
      · exfalso
        simp [hbl, hdl, hdl2] at h4
      · refine WP.skip ?_
        refine WP.seq ?_
        refine WP.seq ?_
        refine WP.region ?_
        refine RG.pv rfl (PV.mvI (.inr rfl) rfl) ?_
        refine RG.nil ?_
        refine WP.block ?_
        refine WP.loop1 [3, 4, 6] (fun i => i ≤ (boxesE (er xs)).length) (fun i => [(9, vi i)]) (fun i => osl 61 rectT v30 (boxesE (er xs)) :: osl 64 devT w21 dsw21 :: bagS 2 intT (pinsOf dsw21) :: osl 56 slT v0 ys :: bagS 61 rectT ys :: L) (fun i => (boxesE (er xs)).length - i) 0 (by omega) ⟨rfl, trivial⟩ Cv.p ?_
        rintro i τ hi
        refine WP.seq ?_
        refine WP.seq ?_
        refine WP.region ?_
        refine RG.pv rfl (PV.mvI (.inl rfl) rfl) ?_
        refine RG.pv rfl (PV.move (v := v30) rfl rfl) ?_
        refine RG.pv rfl (PV.len (v := v30) rfl Tryz.underlying56 rfl SlF.o) ?_
        refine RG.pv rfl (PV.lss rfl rfl rfl) ?_
        refine RG.nil ?_
        refine WP.cond rfl (fun h5 => ?_) (fun h5 => ?_)
        · have h5 := of_decide_eq_true h5
          have hcm : gd (chans (er xs)) i ∈ chans (er xs) := gd_mem (by omega)
          have hbi : gd (boxesE (er xs)) i = (gd (chans (er xs)) i).box := by rw [hbx, gd_map _ (by omega)]
          obtain ⟨f1, f2, f3, f4, f5, f6, f7, f8, f9⟩ := dev_facts h3 hcm
          rw [← hbi] at f1 f2 f3 f5 f6 f7 f8 f9
          have hde : erD (gd dsw21 i) = devOf (er xs) (gd (chans (er xs)) i) := by
            have := congrArg (fun z => gd z i) hzw21
            simp only [hdr] at this
            rwa [gd_map _ (by omega), gd_map _ (by omega)] at this
          simp only [erD, devOf, Prod.mk.injEq] at hde
          obtain ⟨d1, d2, d3, d4⟩ := hde
          have f4' : pinR (er xs) (gd (boxesE (er xs)) i) = pinsL (er xs) (gd (chans (er xs)) i).box (!(gd (chans (er xs)) i).hor) := by rw [hbi]; exact f4
          have hpr : Rs G (bagS 2 intT (pinsOf dsw21) :: L) intT (gd dsw21 i).pins.v (gd dsw21 i).pins.xs := by
            have := RsE.o (G := G) (L := bagS 2 intT (pinsOf dsw21) :: L) (L' := L) (e := 2) (F := intT) (xs := pinsOf dsw21) i (by rw [pinsOf_len]; omega)
            rwa [pinsOf_gd (by omega)] at this
          refine WP.skip ?_
          refine WP.seq ?_
          refine WP.block ?_
          refine WP.seq ?_
          refine WP.region ?_
          refine RG.pv rfl (PV.move (v := v18) rfl rfl) ?_
          refine RG.pv rfl (PV.move (v := v30) rfl rfl) ?_
          refine RG.pv rfl (PV.mvI (.inl rfl) rfl) ?_
          refine RG.pv rfl (PV.idxS (v := v30) rfl Is56 rfl SlF.o rfl rfl (by omega)) ?_
          refine RG.pv rfl (PV.loadE rfl Ag61 rfl rfl (El.o (getG (by omega)))) ?_
          refine RG.callF (vs := [v18, _]) rfl rfl En31 rfl (size_i (Rs.up hxs) (drawn_hd (v0 := v0) (e := 61) (e' := 56) hmem).up ?_)
          refine RG.pv rfl (PV.move (v := .tuple _) rfl rfl) ?_
          refine RG.pv rfl (PV.ext rfl rfl rfl) ?_
          refine RG.pv rfl (PV.ext rfl rfl rfl) ?_
          refine RG.pv rfl (PV.mvI (.inr rfl) rfl) ?_
          refine RG.pv rfl (PV.mvI (.inr rfl) rfl) ?_
          refine RG.nil ?_
          refine WP.seq ?_
          refine WP.region ?_
          refine RG.pv rfl (PV.move (v := v18) rfl rfl) ?_
          refine RG.pv rfl (PV.move (v := v30) rfl rfl) ?_
          refine RG.pv rfl (PV.mvI (.inl rfl) rfl) ?_
          refine RG.pv rfl (PV.idxS (v := v30) rfl Is56 rfl SlF.o rfl rfl (by omega)) ?_
          refine RG.pv rfl (PV.loadE rfl Ag61 rfl rfl (El.o (getG (by omega)))) ?_
          refine RG.callF (vs := [v18, _]) rfl rfl En32 rfl (chPins_i (Rs.up hxs) (drawn_hd (v0 := v0) (e := 61) (e' := 56) hmem).up (fun w69 => ?_))
          refine RG.pv rfl (PV.move (v := .tuple _) rfl rfl) ?_
          refine RG.pv rfl (PV.ext (v := w69) rfl rfl rfl) ?_
          refine RG.pv rfl (PV.ext rfl rfl rfl) ?_
          refine RG.pv rfl (PV.asg (v := w69) rfl rfl) ?_
          refine RG.pv rfl (PV.mvI (.inr rfl) rfl) ?_
          refine RG.nil ?_
          refine WP.seq ?_
          refine WP.region ?_
          refine RG.pv rfl (PV.move (v := w21) rfl rfl) ?_
          refine RG.pv rfl (PV.mvI (.inl rfl) rfl) ?_
          refine RG.pv rfl (PV.idxS (v := w21) rfl Is53 rfl SlF.o rfl rfl (by omega)) ?_
          refine RG.pv rfl (PV.loadE rfl Ag64 rfl rfl (El.o (getG (by omega)))) ?_
          refine RG.ot rfl (OT.alloc rfl Zr64 fun b14 => ?_)
          refine RG.ot rfl (OT.storeW (vs := [vi _, _, vi _, vi _]) rfl Sz64 rfl rfl (Cl.c rfl) rfl rfl (OneC.val rfl (OneC.sl (SlF.r hpr) (OneC.val rfl (OneC.val rfl OneC.nil)))) ?_)
          refine RG.nil ?_
          refine WP.seq ?_
          refine WP.seq ?_
          refine WP.regionQ (by kernel_rfl) (by kernel_rfl) ?_
          refine RQ.pv rfl (PV.mvI (.inl rfl) rfl) ?_
          refine RQ.pv rfl (PV.neq rfl rfl rfl) ?_
          refine RQ.pv rfl (PV.mvB (.inl rfl) rfl) ?_
          refine RQ.gs rfl rfl rfl (fun hp => (PV.move (v := w69) rfl rfl)) ?_
          refine RQ.gs rfl rfl rfl (fun hp => (PV.field rfl Fo64_1 rfl)) ?_
          refine RQ.gs rfl rfl rfl (fun hp => (PV.load1 rfl Sc26 (gs_t hp) (Rd.blk rfl))) ?_
          refine RQ.gsC rfl rfl rfl rfl En33 (fun hp => ⟨_, (acons (gs_t hp) (acons (gs_t hp) anil)), sameInts_s Rs.o (Rs.up hpr) ⟨rfl, rfl, rfl⟩⟩) ?_
          refine RQ.gs rfl rfl rfl (fun hp => (PV.not rfl (gs_t hp))) ?_
          refine RQ.pv rfl (PV.pickO rfl rfl rfl (fun hq => gs_t (geqF hq))) ?_
          refine RQ.pv rfl (PV.mvB (.inl rfl) rfl) ?_
          refine RQ.gs rfl rfl rfl (fun hp => (PV.move (v := w69) rfl rfl)) ?_
          refine RQ.gs rfl rfl rfl (fun hp => (PV.len (v := w69) rfl Tryz.underlying26 (gs_t hp) SlF.o)) ?_
          refine RQ.gs rfl rfl rfl (fun hp => (PV.neq rfl (gs_t hp) rfl)) ?_
          refine RQ.pv rfl (PV.pickO rfl rfl rfl (fun hq => gs_t (geqF hq))) ?_
          refine RQ.pv rfl (PV.mvB (.inl rfl) rfl) ?_
          refine RQ.gs rfl rfl rfl (fun hp => (PV.field rfl Fo64_2 rfl)) ?_
          refine RQ.gs rfl rfl rfl (fun hp => (PV.load1 rfl Sc2 (gs_t hp) (Rd.blk rfl))) ?_
          refine RQ.gs rfl rfl rfl (fun hp => (PV.mvI (.inl rfl) rfl)) ?_
          refine RQ.gs rfl rfl rfl (fun hp => (PV.neq rfl (gs_t hp) (gs_t hp))) ?_
          refine RQ.pv rfl (PV.pickO rfl rfl rfl (fun hq => gs_t (geqF hq))) ?_
          refine RQ.pv rfl (PV.mvB (.inl rfl) rfl) ?_
          refine RQ.gs rfl rfl rfl (fun hp => (PV.field rfl Fo64_3 rfl)) ?_
          refine RQ.gs rfl rfl rfl (fun hp => (PV.load1 rfl Sc2 (gs_t hp) (Rd.blk rfl))) ?_
          refine RQ.gs rfl rfl rfl (fun hp => (PV.mvI (.inl rfl) rfl)) ?_
          refine RQ.gs rfl rfl rfl (fun hp => (PV.neq rfl (gs_t hp) (gs_t hp))) ?_
          refine RQ.pv rfl (PV.pickO rfl rfl rfl (fun hq => gs_t (geqF hq))) ?_
          refine RQ.pv rfl (PV.mvB (.inl rfl) rfl) ?_
          refine RQ.gs rfl rfl rfl (fun hp => (PV.field rfl Fo64_0 rfl)) ?_
          refine RQ.gs rfl rfl rfl (fun hp => (PV.load1 rfl Sc2 (gs_t hp) (Rd.blk rfl))) ?_
          refine RQ.gs rfl rfl rfl (fun hp => (PV.move (v := v18) rfl rfl)) ?_
          refine RQ.gs rfl rfl rfl (fun hp => (PV.move (v := v30) rfl rfl)) ?_
          refine RQ.gs rfl rfl rfl (fun hp => (PV.mvI (.inl rfl) rfl)) ?_
          refine RQ.gs rfl rfl rfl (fun hp => (PV.idxS (v := v30) rfl Is56 (gs_t hp) SlF.o (gs_t hp) rfl (by first | omega | (simp at hp; omega)))) ?_
          refine RQ.gs rfl rfl rfl (fun hp => (PV.loadE rfl Ag61 (gs_t hp) rfl (El.o (getG (by first | omega | (simp at hp; omega)))))) ?_
          refine RQ.gsC rfl rfl rfl rfl En34 (fun hp => ⟨_, (acons (gs_t hp) (acons (gs_t hp) anil)), kind_i (Rs.up hxs) (drawn_hd (v0 := v0) (e := 61) (e' := 56) hmem).up ⟨rfl, rfl, rfl⟩⟩) ?_
          refine RQ.gs rfl rfl rfl (fun hp => (PV.neq rfl (gs_t hp) (gs_t hp))) ?_
          refine RQ.pv rfl (PV.pickO rfl rfl rfl (fun hq => gs_t (geqF hq))) ?_
          refine RQ.nil ?_
          refine WP.cond rfl (fun h6 => ?_) (fun h6 => ?_)
          · exfalso
            simp [f1, f2, f3, f4', f9, d1, d2, d3, d4] at h6
            exact h6 (by simp [pinsL])
          · skip
            refine WP.skip ?_
            refine WP.seq ?_
            refine WP.regionQ (by kernel_rfl) (by kernel_rfl) ?_
            refine RQ.pv rfl (PV.move (v := v18) rfl rfl) ?_
            refine RQ.pv rfl (PV.move (v := v30) rfl rfl) ?_
            refine RQ.pv rfl (PV.mvI (.inl rfl) rfl) ?_
            refine RQ.pv rfl (PV.idxS (v := v30) rfl Is56 rfl SlF.o rfl rfl (by omega)) ?_
            refine RQ.pv rfl (PV.field rfl Fo61_0 rfl) ?_
            refine RQ.pv rfl (PV.loadF (v := v30) (j := 0) rfl Sc2 rfl rfl (El.o (getG (by omega))) rfl) ?_
            refine RQ.pv rfl (PV.move (v := v30) rfl rfl) ?_
            refine RQ.pv rfl (PV.mvI (.inl rfl) rfl) ?_
            refine RQ.pv rfl (PV.idxS (v := v30) rfl Is56 rfl SlF.o rfl rfl (by omega)) ?_
            refine RQ.pv rfl (PV.field rfl Fo61_1 rfl) ?_
            refine RQ.pv rfl (PV.loadF rfl Sc2 rfl rfl (El.o (getG (by omega))) rfl) ?_
            refine RQ.pv rfl (PV.build (vs := [(0, [vi _]), (1, [vi _])]) (out := [_, _]) rfl Zr49 Pl49 ⟨rfl, (Cl.c rfl), ⟨rfl, (Cl.c rfl), trivial⟩⟩ rfl) ?_
            refine RQ.callF (vs := [v18, _, _]) rfl rfl En26 rfl (netAt_i (q := ⟨_, _⟩) (Rs.up hxs) (drawn_hd (v0 := v0) (e := 61) (e' := 56) hmem).up ⟨rfl, rfl, rfl⟩) ?_
            refine RQ.pv rfl (PV.move (v := w69) rfl rfl) ?_
            refine RQ.pv rfl (PV.idxS (j := 0) (v := w69) rfl Is26 rfl SlF.o rfl (by omega) (by omega)) ?_
            refine RQ.pv rfl (PV.loadE1 rfl Sc2 rfl rfl (El.o (getG (by omega))) rfl) ?_
            refine RQ.pv rfl (PV.neq rfl rfl rfl) ?_
            refine RQ.pv rfl (PV.mvB (.inl rfl) rfl) ?_
            refine RQ.gs rfl rfl rfl (fun hp => (PV.move (v := v18) rfl rfl)) ?_
            refine RQ.gs rfl rfl rfl (fun hp => (PV.move (v := v30) rfl rfl)) ?_
            refine RQ.gs rfl rfl rfl (fun hp => (PV.mvI (.inl rfl) rfl)) ?_
            refine RQ.gs rfl rfl rfl (fun hp => (PV.idxS (v := v30) rfl Is56 (gs_t hp) SlF.o (gs_t hp) rfl (by first | omega | (simp at hp; omega)))) ?_
            refine RQ.gs rfl rfl rfl (fun hp => (PV.field rfl Fo61_0 (gs_t hp))) ?_
            refine RQ.gs rfl rfl rfl (fun hp => (PV.loadF (v := v30) (j := 0) rfl Sc2 (gs_t hp) rfl (El.o (getG (by first | omega | (simp at hp; omega)))) rfl)) ?_
            refine RQ.gs rfl rfl rfl (fun hp => (PV.move (v := v30) rfl rfl)) ?_
            refine RQ.gs rfl rfl rfl (fun hp => (PV.mvI (.inl rfl) rfl)) ?_
            refine RQ.gs rfl rfl rfl (fun hp => (PV.idxS (v := v30) rfl Is56 (gs_t hp) SlF.o (gs_t hp) rfl (by first | omega | (simp at hp; omega)))) ?_
            refine RQ.gs rfl rfl rfl (fun hp => (PV.field rfl Fo61_1 (gs_t hp))) ?_
            refine RQ.gs rfl rfl rfl (fun hp => (PV.loadF rfl Sc2 (gs_t hp) rfl (El.o (getG (by first | omega | (simp at hp; omega)))) rfl)) ?_
            refine RQ.gs rfl rfl rfl (fun hp => (PV.build (vs := [(0, [vi _]), (1, [vi _])]) (out := [_, _]) rfl Zr49 Pl49 ⟨rfl, (Cl.e (gs_t hp) rfl), ⟨rfl, (Cl.e (gs_t hp) rfl), trivial⟩⟩ rfl)) ?_
            refine RQ.gsC rfl rfl rfl rfl En26 (fun hp => ⟨_, (acons (gs_t hp) (acons rfl (acons (gs_t hp) anil))), netAt_i (q := ⟨_, _⟩) (Rs.up hxs) (drawn_hd (v0 := v0) (e := 61) (e' := 56) hmem).up ⟨rfl, rfl, rfl⟩⟩) ?_
            refine RQ.gs rfl rfl rfl (fun hp => (PV.neq rfl (gs_t hp) rfl)) ?_
            refine RQ.pv rfl (PV.pickO rfl rfl rfl (fun hq => gs_t (geqF hq))) ?_
            refine RQ.pv rfl (PV.mvB (.inl rfl) rfl) ?_
            refine RQ.gs rfl rfl rfl (fun hp => (PV.move (v := w69) rfl rfl)) ?_
            refine RQ.gs rfl rfl rfl (fun hp => (PV.idxS (j := 1) (v := w69) rfl Is26 (gs_t hp) SlF.o rfl (by first | omega | (simp at hp; omega)) (by first | omega | (simp at hp; omega)))) ?_
            refine RQ.gs rfl rfl rfl (fun hp => (PV.loadE1 rfl Sc2 (gs_t hp) rfl (El.o (getG (by first | omega | (simp at hp; omega)))) rfl)) ?_
            refine RQ.gs rfl rfl rfl (fun hp => (PV.lss rfl (gs_t hp) rfl)) ?_
            refine RQ.pv rfl (PV.pickO rfl rfl rfl (fun hq => gs_t (geqF hq))) ?_
            refine RQ.pv rfl (PV.mvB (.inl rfl) rfl) ?_
            refine RQ.gs rfl rfl rfl (fun hp => (PV.move (v := w69) rfl rfl)) ?_
            refine RQ.gs rfl rfl rfl (fun hp => (PV.idxS (j := 2) (v := w69) rfl Is26 (gs_t hp) SlF.o rfl (by first | omega | (simp at hp; omega)) (by first | omega | (simp at hp; omega)))) ?_
            refine RQ.gs rfl rfl rfl (fun hp => (PV.loadE1 rfl Sc2 (gs_t hp) rfl (El.o (getG (by first | omega | (simp at hp; omega)))) rfl)) ?_
            refine RQ.gs rfl rfl rfl (fun hp => (PV.lss rfl (gs_t hp) rfl)) ?_
            refine RQ.pv rfl (PV.pickO rfl rfl rfl (fun hq => gs_t (geqF hq))) ?_
            refine RQ.nil ?_
            refine WP.cond rfl (fun h7 => ?_) (fun h7 => ?_)
            · exfalso
              simp [f5, f6] at h7
              omega
            · refine WP.skip ?_
              refine WP.region ?_
              refine RG.pv rfl (PV.mvI (.inl rfl) rfl) ?_
              refine RG.pv rfl (PV.add rfl rfl rfl (by omega)) ?_
              refine RG.pv rfl (PV.mvI (.inr rfl) rfl) ?_
              refine RG.nil ?_
              exact ⟨rfl, i + 1, (by omega), ⟨rfl, trivial⟩, ⟨rfl, rfl, rfl, trivial⟩, Cv.p, by omega⟩
        · refine WP.exit ?_
          refine WP.seq ?_
          refine WP.region ?_
          refine RG.pv rfl (PV.mvB (.inr rfl) rfl) ?_
          refine RG.nil ?_
          refine WP.ret ?_
          exact ⟨_, _, ResV.one rfl rfl, Cv.p, k⟩
end Go.Proofs.YtmomfgfmnpblpaaGreat
namespace Go.Proofs.YtmomfgfmnpblpaaGreat
set_option linter.unusedVariables false
set_option linter.unusedSimpArgs false
open Go Go.ChangeShapes Go.WideShapes Go.ChangeAt Go.RowKit
set_option linter.unusedSimpArgs false
def okU8 (_ : Gh) (_ : UInt8) : Prop := True
theorem opnU8 {P : Program} {t : TypeId} (ht : P.underlying t = some (.int .u8)) : Opn P t byteT okU8 := fun h => by
  obtain ⟨n, rfl, _, hw⟩ := DataW.trod_int ht h
  have : IntKind.u8.min ≤ n ∧ n ≤ IntKind.u8.max := by simpa [Lit.wf] using hw
  simp only [show IntKind.u8.min = 0 from rfl, show IntKind.u8.max = 255 from rfl] at this
  refine ⟨UInt8.ofNat n.toNat, ?_, trivial⟩
  simp only [byteT, UInt8.toNat_ofNat']
  congr 2
  omega
set_option maxRecDepth 100000
theorem Tryz.own : ownKnob Tryz.prog.godebug = none := by kernel_rfl
theorem Tryz.laidOut : laidOutB Tryz.prog = true := by kernel_rfl
theorem fnDevicesOfChannels_lifted (os : Os) (started : os.Started) (H : Type) (enc : TypeId × Value → H) :
    ReturnsInHanded {} Tryz.checked os 5 .any (Rows.fnDevicesOfChannelsSpec.pre6 enc Tryz.prog Tryz.f5 [] false) (Rows.fnDevicesOfChannelsSpec.post enc Tryz.prog Tryz.f5 false true false false) := by
  refine law_lifted (C := Tryz.checked) Tryz.own started (by kernel_rfl) Tryz.func5 Tryz.laidOut rfl (by kernel_rfl) rfl Tryz.underlying4 (fun ds h => ?_)
    (ChangeSpec.witness6 (enc := enc) (C := Tryz.checked) false ⟨#[], #[.slice none 0 0], []⟩ 8 (by kernel_rfl) (by kernel_rfl) (by kernel_rfl) (by kernel_rfl)) ?_
  · match ds, h with
    | [d], _ => rfl
  · intro W base args ds ps hval hA
    have hA : DataW.TrodAll enc Tryz.prog W 0 (fun _ => true) true Tryz.f5.params.toList args.toList ds ps := hA
    have hval : ∀ (j : Nat) t v, Tryz.f5.params[j]? = some t → args[j]? = some v → Value.okWide Tryz.prog W .any base t v := hval
    rw [Tryz.params5] at hA hval
    obtain ⟨v0, d0, rfl, rfl, h0⟩ := trodAll_one hA
    obtain ⟨s, rfl, q1, _⟩ := argSl Tryz.underlying40 (opnSl (F := byteT) (ok := okU8) Tryz.underlying40 (opnU8 Tryz.underlying5) (by kernel_rfl) (by decide)) (hval 0 _ v0 rfl rfl) h0
    exact law_DevicesOfChannels q1 ⟨rfl, Gh.le_refl _⟩
theorem fnDevicesOfChannels_holds : Rows.FnDevicesOfChannelsSaid :=
  OpenClaim.holds_of_wide 5 Tryz.f5 rfl rfl rfl rfl rfl rfl rfl ⟨rfl, rfl, rfl, rfl, rfl⟩ rfl rfl rfl rfl rfl (by kernel_rfl) Tryz.func5 (by kernel_rfl)
    (of_decide_eq_true (by kernel_rfl)) (by unfold Func.isWrapper; first | (rw [if_pos (by decide +kernel)]; kernel_rfl) | (rw [if_neg (by decide +kernel)]; exact ⟨rfl, rfl⟩))
    (fun os started H enc _ => fnDevicesOfChannels_lifted os started H enc)
end Go.Proofs.YtmomfgfmnpblpaaGreat
