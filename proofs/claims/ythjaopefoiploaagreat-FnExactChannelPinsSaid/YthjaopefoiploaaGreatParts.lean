/-
  Plain: the parts of a set, one after the other; the first rectangle of a part begins at its first cell.
-/
import Derived.Test.YthjaopefoiploaaGreatFlood
import Derived.Test.YthjaopefoiploaaGreatBag
namespace Go.Proofs.YthjaopefoiploaaGreat
open Go
/-! ## the first rectangle -/
theorem runsFrom_first (r : Nat → Bool) (X : Nat) (hX : X < 80) (hr : r X = true) (x : Nat) (hx : x ≤ X) (h0 : ∀ z, x ≤ z → z < X → r z = false) : ∃ e l, runsFrom r x = (X, e) :: l := by
  rw [runsFrom, if_pos (by omega)]
  by_cases e : x = X
  · subst e; rw [if_pos hr]; exact ⟨_, _, rfl⟩
  · rw [if_neg (by simp [h0 x (Nat.le_refl _) (by omega)])]
    exact runsFrom_first r X hX hr (x + 1) (by omega) fun z h1 h2 => h0 z (by omega) h2
termination_by 80 - x
theorem runsFrom_none (r : Nat → Bool) (x : Nat) (h0 : ∀ z, x ≤ z → z < 80 → r z = false) : runsFrom r x = [] := by
  rw [runsFrom]; split
  · rename_i h
    rw [if_neg (by simp [h0 x (Nat.le_refl _) h])]
    exact runsFrom_none r (x + 1) fun z h1 h2 => h0 z (by omega) h2
  · rfl
termination_by 80 - x
theorem canonFrom_first (bs : List Bool) (Y X : Nat) (hY : Y < 80) (hX : X < 80) (hb : gb bs Y X = true) (hx : ∀ z, z < X → gb bs Y z = false) (y : Nat) (hy : y ≤ Y) (h0 : ∀ z x, y ≤ z → z < Y → x < 80 → gb bs z x = false) : ∃ e f l, canonFrom bs y = mkR Y e (X, f) :: l := by
  rw [canonFrom, if_pos (by omega)]
  by_cases e : y = Y
  · subst e
    obtain ⟨f, l, hf⟩ := runsFrom_first (gb bs y) X hX hb 0 (by omega) fun z _ h => hx z h
    rw [hf]; exact ⟨_, _, _, rfl⟩
  · rw [runsFrom_none (gb bs y) 0 fun z _ h => h0 y z (Nat.le_refl _) (by omega) h, List.map_nil, List.nil_append]
    have h1 := endFrom_ge bs y (y + 1)
    have h2 : endFrom bs y (y + 1) ≤ Y := by
      by_cases c : endFrom bs y (y + 1) ≤ Y
      · exact c
      · have h3 := rowsEq_gb' (endFrom_eq bs y (y + 1) Y (by omega) (by omega)) X hX
        rw [hb, h0 y X (Nat.le_refl _) (by omega) hX] at h3; cases h3
    exact canonFrom_first bs Y X hY hX hb hx (endFrom bs y (y + 1)) h2 fun z x h3 h4 h5 => h0 z x (by omega) h4 h5
termination_by 80 - y
/-- the first rectangle of a part begins at its first cell -/
theorem canon_first {S : List Bool} {n : Nat} (h : First S n) : 0 < (canon (compB S (cel n))).length ∧ (gd (canon (compB S (cel n))) 0).y0 = ((n / 80 : Nat) : Int) - 40 ∧ (gd (canon (compB S (cel n))) 0).x0 = ((n % 80 : Nat) : Int) - 40 := by
  obtain ⟨h1, h2⟩ := h
  have hY : n / 80 < 80 := h1.1
  have hX : n % 80 < 80 := h1.2.1
  have key : ∀ y x, y < 80 → x < 80 → y * 80 + x < n → gb (compB S (cel n)) y x = false := fun y x hy hx hlt => by
    cases hg : gb (compB S (cel n)) y x with
    | false => rfl
    | true =>
      exfalso
      have hc := (comp_iff hy hx).1 hg
      have hon := hc.on h1
      have e : cel (y * 80 + x) = (y, x) := cel_pos (a := (y, x)) hx
      exact h2 _ hlt (by rw [e]; exact hon) (by rw [e]; exact hc.symm h1)
  have hb : gb (compB S (cel n)) (n / 80) (n % 80) = true := (comp_iff hY hX).2 .refl
  obtain ⟨e, f, l, hc⟩ := canonFrom_first (compB S (cel n)) (n / 80) (n % 80) hY hX hb (fun z hz => key _ _ hY (by omega) (by omega)) 0 (by omega) fun z x _ hz hx => key z x (by omega) hx (by omega)
  rw [canon, hc]
  refine ⟨by simp, ?_, ?_⟩ <;> simp [gd, mkR]
/-! ## all parts -/
theorem cel_div {n : Nat} (h : n < 6400) : n / 80 < 80 := by omega
structure PI {β : Type} (f : List Bool → β) (S : List Bool) (n : Nat) (T : List Bool) (zs : List β) : Prop where
  len : T.length = 6400
  left : ∀ a, On T a ↔ Left S n a
  er : zs = (firsts S n).map fun j => f (compB S (cel j))
theorem PI.start {β : Type} {f : List Bool → β} {S : List Bool} (h : S.length = 6400) : PI f S 0 S [] := ⟨h, fun _ => left_zero.symm, rfl⟩
theorem on_cel {T : List Bool} {n : Nat} (hn : n < 6400) : On T (cel n) ↔ gb T (n / 80) (n % 80) = true := ⟨fun h => h.2.2, fun h => ⟨by simp only [cel]; omega, by simp only [cel]; omega, h⟩⟩
theorem PI.skip {β : Type} {f : List Bool → β} {S T : List Bool} {n : Nat} {zs : List β} (h : PI f S n T zs) (hn : n < 6400) (hg : gb T (n / 80) (n % 80) = false) : PI f S (n + 1) T zs := by
  have hf : ¬ First S n := fun hf => by
    have := (on_cel hn).1 ((h.left _).2 (left_first.2 hf)); rw [hg] at this; cases this
  refine ⟨h.len, fun a => (h.left a).trans (left_succ_skip hf).symm, ?_⟩
  rw [firsts_succ, if_neg hf]; exact h.er
theorem PI.first {β : Type} {f : List Bool → β} {S T : List Bool} {n : Nat} {zs : List β} (h : PI f S n T zs) (hn : n < 6400) (hg : gb T (n / 80) (n % 80) = true) : First S n := left_first.1 ((h.left _).1 ((on_cel hn).2 hg))
theorem PI.comp {β : Type} {f : List Bool → β} {S T : List Bool} {n : Nat} {zs : List β} (h : PI f S n T zs) (hn : n < 6400) (hg : gb T (n / 80) (n % 80) = true) : compB T (cel n) = compB S (cel n) := comp_left h.left (left_first.2 (h.first hn hg))
theorem PI.take {β : Type} {f : List Bool → β} {S T T' : List Bool} {n : Nat} {zs : List β} (h : PI f S n T zs) (hn : n < 6400) (hg : gb T (n / 80) (n % 80) = true) (hl : T'.length = 6400) (hg' : ∀ y x, y < 80 → x < 80 → gb T' y x = (gb T y x && !gb (compB T (cel n)) y x)) : PI f S (n + 1) T' (zs ++ [f (compB T (cel n))]) := by
  have hf := h.first hn hg
  have hc := h.comp hn hg
  refine ⟨hl, fun a => ?_, ?_⟩
  · rw [left_succ_take hf, ← h.left a]
    constructor
    · rintro ⟨h1, h2, h3⟩
      rw [hg' _ _ h1 h2, Bool.and_eq_true, Bool.not_eq_true', hc] at h3
      refine ⟨⟨h1, h2, h3.1⟩, fun k => ?_⟩
      have := (comp_iff h1 h2).2 k; rw [h3.2] at this; cases this
    · rintro ⟨⟨h1, h2, h3⟩, h4⟩
      refine ⟨h1, h2, ?_⟩
      rw [hg' _ _ h1 h2, h3, hc, Bool.true_and, Bool.not_eq_true']
      cases hb : gb (compB S (cel n)) a.1 a.2 with
      | false => rfl
      | true => exact absurd ((comp_iff h1 h2).1 hb) h4
  · rw [firsts_succ, if_pos hf, List.map_append, ← h.er, hc]; rfl
noncomputable def partsL (S : List Bool) : List (List Rect) := (comps S).map canon
theorem PI.all {S T : List Bool} {zs : List (List Bool)} (h : PI id S 6400 T zs) : zs = comps S := by
  rw [h.er, comps]; simp only [id]
theorem PI.final {S T : List Bool} {zs : List (List Rect)} (h : PI canon S 6400 T zs) : zs = partsL S := by
  rw [h.er, partsL, comps, List.map_map]; simp only [Function.comp_def]
open Classical in
theorem firsts_sorted (S : List Bool) (n : Nat) : (firsts S n).Pairwise (· < ·) := List.Pairwise.filter _ List.pairwise_lt_range
theorem firsts_lt {S : List Bool} {n i j : Nat} (h : i < j) (hj : j < (firsts S n).length) : gd (firsts S n) i < gd (firsts S n) j := by
  rw [gd_eq hj, gd_eq (by omega)]
  exact List.pairwise_iff_getElem.1 (firsts_sorted S n) i j (by omega) hj h
open Classical in
theorem firsts_first {S : List Bool} {n i : Nat} (hi : i < (firsts S n).length) : First S (gd (firsts S n) i) := by
  rw [gd_eq hi]
  have := List.getElem_mem hi
  have := (List.mem_filter.1 this).2
  simpa using this
theorem partsL_len (S : List Bool) : (partsL S).length = (firsts S 6400).length := by simp [partsL, comps]
open Classical in
theorem firsts_len (S : List Bool) (n : Nat) : (firsts S n).length ≤ n := by
  have := List.length_filter_le (fun j => decide (First S j)) (List.range n)
  simpa [firsts] using this
theorem partsL_gd {S : List Bool} {i : Nat} (hi : i < (firsts S 6400).length) : gd (partsL S) i = canon (compB S (cel (gd (firsts S 6400) i))) := by
  rw [gd_eq (by rw [partsL_len]; exact hi), gd_eq hi]; simp [partsL, comps]
/-- a part is taken away, cell by cell -/
def Sub (T C : List Bool) (n : Nat) (U : List Bool) : Prop := U.length = 6400 ∧ ∀ y x, y < 80 → x < 80 → gb U y x = if y * 80 + x < n then (gb T y x && !gb C y x) else gb T y x
theorem Sub.start {T C : List Bool} (h : T.length = 6400) : Sub T C 0 T := ⟨h, fun y x _ _ => by rw [if_neg (by omega)]⟩
theorem Sub.step {T C U : List Bool} {v u m : Nat} (h : Sub T C (v * 80 + u) U) (hv : v < 80) (hu : u < 80) (hm : m = v * 80 + u + 1) : Sub T C m (U.set (0 + v * 80 + u * 1) (gd U (0 + v * 80 + u * 1) && !gd C (0 + v * 80 + u * 1))) := by
  subst hm
  obtain ⟨h1, h2⟩ := h
  refine ⟨by simpa using h1, fun y x hy hx => ?_⟩
  rw [show 0 + v * 80 + u * 1 = v * 80 + u by omega, gb_set' h1 hv hu hx]
  by_cases e : y = v ∧ x = u
  · obtain ⟨rfl, rfl⟩ := e
    rw [if_pos ⟨rfl, rfl⟩, if_pos (by omega)]
    have := h2 y x hv hu
    rw [if_neg (by omega)] at this
    show (gb U y x && !gb C y x) = _
    rw [this]
  · rw [if_neg e, h2 y x hy hx]
    by_cases c : y * 80 + x < v * 80 + u
    · rw [if_pos c, if_pos (by omega)]
    · rw [if_neg c, if_neg (by omega)]
theorem Sub.final {T C U : List Bool} (h : Sub T C 6400 U) : ∀ y x, y < 80 → x < 80 → gb U y x = (gb T y x && !gb C y x) := fun y x hy hx => by
  rw [h.2 y x hy hx, if_pos (by omega)]
/-! ## a walk over the four neighbours -/
def dX (d : Nat) : Int := gd [1, -1, 0, 0] d
def dY (d : Nat) : Int := gd [0, 0, 1, -1] d
theorem dX_le (d : Nat) : -1 ≤ dX d ∧ dX d ≤ 1 := by
  match d with
  | 0 | 1 | 2 | 3 => simp [dX, gd]
  | n + 4 => simp [dX, gd]
theorem dY_le (d : Nat) : -1 ≤ dY d ∧ dY d ≤ 1 := by
  match d with
  | 0 | 1 | 2 | 3 => simp [dY, gd]
  | n + 4 => simp [dY, gd]
def Near4 (S O : List Bool) (p : Cel) (d : Nat) : Prop := ∀ e, e < d → ∀ c : Cel, (c.1 : Int) = p.1 + dY e → (c.2 : Int) = p.2 + dX e → On S c → On O c
theorem Near4.zero (S O : List Bool) (p : Cel) : Near4 S O p 0 := fun e h => by omega
theorem Near4.done {S O : List Bool} {p : Cel} (h : Near4 S O p 4) : ∀ c, Adj p c → On S c → On O c := fun c ha hs => by
  rcases ha with ⟨h1, h2 | h2⟩ | ⟨h1, h2 | h2⟩
  · exact h 1 (by omega) c (by simp [dY, gd]; omega) (by simp [dX, gd]; omega) hs
  · exact h 0 (by omega) c (by simp [dY, gd]; omega) (by simp [dX, gd]; omega) hs
  · exact h 3 (by omega) c (by simp [dY, gd]; omega) (by simp [dX, gd]; omega) hs
  · exact h 2 (by omega) c (by simp [dY, gd]; omega) (by simp [dX, gd]; omega) hs
theorem Near4.step {S O O' : List Bool} {p : Cel} {d : Nat} (h : Near4 S O p d) (hO : ∀ c, On O c → On O' c) (hn : ∀ c : Cel, (c.1 : Int) = p.1 + dY d → (c.2 : Int) = p.2 + dX d → On S c → On O' c) : Near4 S O' p (d + 1) := fun e he c h1 h2 hs => by
  by_cases k : e = d
  · subst k; exact hn c h1 h2 hs
  · exact hO c (h e (by omega) c h1 h2 hs)
theorem Done.next4 {S O : List Bool} {Q : List (Int × Int)} {i : Nat} {p : Cel} (h : Done S O Q i) (hp : qc (gd Q i) = p) (hn : Near4 S O p 4) : Done S O Q (i + 1) := fun m hm c ha hs => by
  by_cases e : m = i
  · subst e; rw [hp] at ha; exact hn.done c ha hs
  · exact h m (by omega) c ha hs
theorem Near4.skip {S O : List Bool} {q : Int × Int} {d : Nat} (h : Near4 S O (qc q) d) (hb : 0 ≤ q.1 ∧ q.1 < 80 ∧ 0 ≤ q.2 ∧ q.2 < 80) (hc : ¬ (0 ≤ q.1 + dX d ∧ q.1 + dX d < 80 ∧ 0 ≤ q.2 + dY d ∧ q.2 + dY d < 80) ∨ gb S (q.2 + dY d).toNat (q.1 + dX d).toNat = false ∨ gb O (q.2 + dY d).toNat (q.1 + dX d).toNat = true) : Near4 S O (qc q) (d + 1) :=
  h.step (fun _ h => h) fun c e1 e2 hs => by
    obtain ⟨c1, c2⟩ := c
    obtain ⟨h1, h2, h3⟩ := hs
    simp only [qc] at *
    have e3 : c1 = (q.2 + dY d).toNat := by omega
    have e4 : c2 = (q.1 + dX d).toNat := by omega
    rcases hc with k | k | k
    · omega
    · rw [← e3, ← e4, h3] at k; cases k
    · exact ⟨h1, h2, by rw [e3, e4]; exact k⟩
theorem Near4.take {S O : List Bool} {q : Int × Int} {d : Nat} (h : Near4 S O (qc q) d) (hl : O.length = 6400) (hb : 0 ≤ q.1 ∧ q.1 < 80 ∧ 0 ≤ q.2 ∧ q.2 < 80) (hx : 0 ≤ q.1 + dX d ∧ q.1 + dX d < 80) (hy : 0 ≤ q.2 + dY d ∧ q.2 + dY d < 80) : Near4 S (O.set ((q.2 + dY d).toNat * 80 + (q.1 + dX d).toNat) true) (qc q) (d + 1) :=
  h.step (fun c hc => on_set hl hx hy hc) fun c e1 e2 hs => by
    obtain ⟨c1, c2⟩ := c
    obtain ⟨h1, h2, h3⟩ := hs
    simp only [qc] at *
    have e3 : c1 = (q.2 + dY d).toNat := by omega
    have e4 : c2 = (q.1 + dX d).toNat := by omega
    refine ⟨h1, h2, ?_⟩
    rw [gb_set' hl (by omega) (by omega) h2, if_pos ⟨e3, e4⟩]
theorem adj4 {q : Int × Int} {d : Nat} (hd : d < 4) (hb : 0 ≤ q.1 ∧ q.1 < 80 ∧ 0 ≤ q.2 ∧ q.2 < 80) (hx : 0 ≤ q.1 + dX d) (hy : 0 ≤ q.2 + dY d) : Adj (qc q) ((q.2 + dY d).toNat, (q.1 + dX d).toNat) := by
  match d with
  | 0 | 1 | 2 | 3 => simp [dX, dY, gd, qc, Adj] at *; omega
end Go.Proofs.YthjaopefoiploaaGreat
