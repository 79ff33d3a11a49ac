/-
  Plain: the cells of the parts of a set are those of the set; the pieces of the nets are all pieces; joined pieces are of one class.
-/
import Derived.Test.YthjaopefoiploaaChan
namespace Go.Proofs.Ythjaopefoiploaa
open Go
set_option linter.unusedSimpArgs false
set_option maxRecDepth 20000
theorem least {P : Nat → Prop} (n : Nat) : P n → ∃ m, P m ∧ ∀ i, i < m → ¬ P i := by
  induction n using Nat.strongRecOn with
  | ind n ih =>
    intro h
    by_cases c : ∃ i, i < n ∧ P i
    · obtain ⟨i, hi, hp⟩ := c; exact ih i hi hp
    · exact ⟨n, h, fun i hi hp => c ⟨i, hi, hp⟩⟩
theorem comps_cover {S : List Bool} {y x : Nat} (hy : y < 80) (hx : x < 80) : ((comps S).any fun c => gb c y x) = gb S y x := by
  classical
  rw [Bool.eq_iff_iff, List.any_eq_true]
  constructor
  · rintro ⟨c, hc, h⟩
    obtain ⟨j, hj, rfl⟩ := List.mem_map.1 hc
    have hf : First S j := by simpa using (List.mem_filter.1 hj).2
    exact (((comp_iff hy hx).1 h).on hf.1).2.2
  · intro h
    have hon : On S (y, x) := ⟨hy, hx, h⟩
    obtain ⟨m, h1, hmin⟩ := least (P := fun i => On S (cel i) ∧ Conn S (cel i) (y, x)) (pos (y, x)) (by simp only [cel_pos (a := (y, x)) hx]; exact ⟨hon, .refl⟩)
    have hm : m < 6400 := by
      have a1 := h1.1.1; have a2 := h1.1.2.1
      simp only [cel] at a1 a2; omega
    have hf : First S m := ⟨h1.1, fun i hi ho hc => hmin i hi ⟨ho, hc.trans h1.2⟩⟩
    refine ⟨compB S (cel m), List.mem_map.2 ⟨m, List.mem_filter.2 ⟨List.mem_range.2 hm, by simpa using hf⟩, rfl⟩, (comp_iff hy hx).2 h1.2⟩
theorem cnt_sum {bs : List Bool} : ∀ n, n ≤ bs.length → cnt (bs.take n) = sumF (fun k => one (gd bs k)) n
  | 0, _ => by simp [cnt, sumF]
  | n + 1, h => by rw [cnt_take (by omega), cnt_sum n (by omega), sumF]; rfl
theorem cnt_sum' {bs : List Bool} (h : bs.length = 6400) : cnt bs = sumF (fun k => one (gd bs k)) 6400 := by
  rw [← cnt_sum 6400 (by omega), List.take_of_length_le (by omega)]
/-- the parts of a set have as many cells as the set -/
theorem comps_cnt {S : List Bool} (hS : S.length = 6400) : costL cnt (comps S) = cnt S := by
  rw [costL_congr (g := fun c => sumF (fun k => one (gd c k)) 6400) fun c hc => cnt_sum' (comps_mem hc), ← sumF_costL, cnt_sum' hS]
  refine sumF_congr fun n hn => ?_
  have e : n / 80 * 80 + n % 80 = n := by omega
  have hp : (comps S).Pairwise fun c d => ¬ (gd c n = true ∧ gd d n = true) := (comps_apart S).imp fun {c d} h ⟨h1, h2⟩ => h (n / 80) (n % 80) (by omega) (by omega) (by rw [gb, e]; exact h1) (by rw [gb, e]; exact h2)
  rw [← one_any hp]
  have := comps_cover (S := S) (y := n / 80) (x := n % 80) (by omega) (by omega)
  simp only [gb, e] at this
  rw [this]
theorem costL_perm {α : Type} (f : α → Int) {xs ys : List α} (h : xs.Perm ys) : costL f xs = costL f ys := by
  induction h with
  | nil => rfl
  | cons x _ ih => simp only [costL, ih]
  | swap x y l => simp only [costL]; omega
  | trans _ _ ih1 ih2 => rw [ih1, ih2]
theorem costL_map {α β : Type} (f : β → Int) (g : α → β) : ∀ xs : List α, costL f (xs.map g) = costL (fun x => f (g x)) xs
  | [] => rfl
  | x :: xs => by simp only [List.map_cons, costL, costL_map f g xs]
theorem costL_flatten {α : Type} (f : α → Int) : ∀ xs : List (List α), costL f xs.flatten = costL (costL f) xs
  | [] => rfl
  | x :: xs => by rw [List.flatten_cons, costL_append, costL_flatten f xs]; rfl
theorem costL_one {α : Type} (xs : List α) : costL (fun _ => 1) xs = xs.length := by rw [costL_const]; omega
theorem pcL_cnt (l : List (List Rect)) : costL (fun p => cnt p.2) (pcL l 4) = costL cnt (condB l) := by
  have h : ∀ i, i < 4 → costL (fun p : Int × List Bool => cnt p.2) ((comps (gd (condB l) i)).map fun c => (gd [0, 1, 3, 5] i, c)) = cnt (gd (condB l) i) := fun i hi => by
    rw [costL_map, ← comps_cnt (condB_len l hi)]
  have h0 : pcL l 0 = [] := rfl
  rw [pcL_succ, pcL_succ, pcL_succ, pcL_succ, costL_append, costL_append, costL_append, costL_append, h 0 (by omega), h 1 (by omega), h 2 (by omega), h 3 (by omega), h0]
  simp only [costL, condB, gd, List.getElem?_cons_zero, List.getElem?_cons_succ, Option.getD_some]; omega
/-- the cells of a net, told by its pieces -/
def netCE (z : List (Int × List Rect)) : Int := netC (z.map Prod.snd)
theorem netL_mem {l : List (List Rect)} {z : List (Int × List Rect)} (h : z ∈ netL l) : ∀ p ∈ z, ∃ q ∈ pcL l 4, p = pcR q := by
  intro p hp
  have hm : p ∈ (netL l).flatten := List.mem_flatten.2 ⟨z, h, hp⟩
  have hlen : ((pcL l 4).map pcR).length = (pcL l 4).length := by simp
  have := netsP_perm (clsL_rt l) ((pcL l 4).map pcR) (by rw [clsL_len, hlen])
  rw [hlen] at this
  have := this.mem_iff.1 hm
  obtain ⟨q, hq, rfl⟩ := List.mem_map.1 this
  exact ⟨q, hq, rfl⟩
theorem netL_perm (l : List (List Rect)) : (netL l).flatten.Perm ((pcL l 4).map pcR) := by
  have hlen : ((pcL l 4).map pcR).length = (pcL l 4).length := by simp
  have := netsP_perm (clsL_rt l) ((pcL l 4).map pcR) (by rw [clsL_len, hlen])
  rw [hlen] at this; exact this
theorem netCE_eq {z : List (Int × List Rect)} (h : ∀ p ∈ z, isReg p.2 = true) : netCE z = costL (fun p => areaS p.2) z := by
  rw [netCE, netC_all fun i hi => ?_, costL_map]
  rw [List.length_map] at hi
  rw [gd_map _ hi]; exact h _ (by rw [gd_eq hi]; exact List.getElem_mem hi)
theorem netL_reg {l : List (List Rect)} {z : List (Int × List Rect)} (h : z ∈ netL l) : ∀ p ∈ z, isReg p.2 = true := fun p hp => by
  obtain ⟨q, hq, rfl⟩ := netL_mem h p hp
  exact isReg_canon (pcL_mem hq)
/-- the nets have the cells of the conductors -/
theorem netL_cells (l : List (List Rect)) : costL netCE (netL l) = costL cnt (condB l) := by
  rw [costL_congr (g := costL fun p => areaS p.2) fun z hz => netCE_eq (netL_reg hz), ← costL_flatten, costL_perm _ (netL_perm l), costL_map, ← pcL_cnt]
  exact costL_congr fun p hp => cnt_canon (pcL_mem hp)
theorem netL_count (l : List (List Rect)) : costL (fun z => (z.length : Int)) (netL l) = ((pcL l 4).length : Int) := by
  have h := costL_flatten (fun _ => 1) (netL l)
  rw [costL_one, (netL_perm l).length_eq, List.length_map] at h
  rw [h]; exact costL_congr fun z _ => (costL_one z).symm
/-! ## joined pieces are of one class -/
theorem stepJ_keep {J : Nat → Nat → Bool} {i k a b : Nat} {c : List Int} (ha : a < c.length) (hb : b < c.length) (h : gd c a = gd c b) : gd (stepJ J i c k) a = gd (stepJ J i c k) b := by
  unfold stepJ
  split
  · exact h
  · rw [gd_map _ ha, gd_map _ hb, h]
theorem inJ_keep {J : Nat → Nat → Bool} {i a b : Nat} {c : List Int} (ha : a < c.length) (hb : b < c.length) (h : gd c a = gd c b) : ∀ k, gd (inJ J i c k) a = gd (inJ J i c k) b
  | 0 => by rw [inJ_zero, gd_app_l ha, gd_app_l hb, h]
  | k + 1 => by
    rw [inJ_succ]
    exact stepJ_keep (by rw [inJ_len]; omega) (by rw [inJ_len]; omega) (inJ_keep ha hb h k)
theorem rootsJ_keep {J : Nat → Nat → Bool} {a b n : Nat} (ha : a < n) (hb : b < n) (h : gd (rootsJ J n) a = gd (rootsJ J n) b) : ∀ m, n ≤ m → gd (rootsJ J m) a = gd (rootsJ J m) b
  | 0, hm => by omega
  | m + 1, hm => by
    by_cases e : n = m + 1
    · rw [← e]; exact h
    · rw [rootsJ]
      exact inJ_keep (by rw [rootsJ_len]; omega) (by rw [rootsJ_len]; omega) (rootsJ_keep ha hb h m (by omega)) m
theorem inJ_join {J : Nat → Nat → Bool} {i k : Nat} {c : List Int} (hc : c.length = i) (hk : k < i) (hJ : J k i = true) : ∀ m, k < m → gd (inJ J i c m) k = gd (inJ J i c m) i
  | 0, h => by omega
  | m + 1, h => by
    rw [inJ_succ]
    have hl := inJ_len J i c m
    by_cases e : k = m
    · subst e
      unfold stepJ
      split
      · rename_i h1
        rcases h1 with h1 | h1
        · exact h1
        · rw [hJ] at h1; cases h1
      · rw [gd_map _ (by omega), gd_map _ (by omega)]
        simp only [rl]
        split <;> split <;> omega
    · exact stepJ_keep (by omega) (by omega) (inJ_join hc hk hJ m (by omega))
theorem rootsJ_join {J : Nat → Nat → Bool} {k i n : Nat} (hk : k < i) (hi : i < n) (hJ : J k i = true) : gd (rootsJ J n) k = gd (rootsJ J n) i := by
  refine rootsJ_keep (n := i + 1) (by omega) (by omega) ?_ n (by omega)
  rw [rootsJ]
  exact inJ_join (rootsJ_len J i) hk hJ i hk
theorem jnL_symm (l : List (List Rect)) (p q : Int × List Bool) : jnL l p q = jnL l q p := by
  simp only [jnL, jnR_eq, mt_comm p.2 q.2]
  rw [show decide (p.1 = q.1) = decide (q.1 = p.1) by rw [Bool.eq_iff_iff]; simp; omega, Bool.or_comm (decide (p.1 = 3)), Bool.or_comm (decide (p.1 = 5))]
/-- joined pieces are on one net -/
theorem numR_join {l : List (List Rect)} {k i : Nat} (hk : k < (pcL l 4).length) (hi : i < (pcL l 4).length) (h : jnL l (gd (pcL l 4) k) (gd (pcL l 4) i) = true) : numR (clsL l) k = numR (clsL l) i := by
  have key : gd (clsL l) k = gd (clsL l) i := by
    rcases Nat.lt_trichotomy k i with c | c | c
    · exact rootsJ_join c hi h
    · rw [c]
    · exact (rootsJ_join (J := JL l) c hk (by rw [JL, jnL_symm]; exact h)).symm
  rw [numR, numR, key]
end Go.Proofs.Ythjaopefoiploaa
