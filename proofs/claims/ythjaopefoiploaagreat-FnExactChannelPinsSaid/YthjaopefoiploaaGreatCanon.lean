/-
  The plain law of regions: the canonical list of rectangles of a set of unit cells, as the program scans it and as the reference reads it off the transitions of each row.
-/
import Derived.Test.YthjaopefoiploaaGreatData
namespace Go.Proofs.YthjaopefoiploaaGreat

/-! ## a row: its runs and its transitions -/
def has (r : Nat → Bool) (x : Nat) : Bool := decide (x < 80) && r x
def prev (r : Nat → Bool) (x : Nat) : Bool := decide (0 < x) && has r (x - 1)
def tr (r : Nat → Bool) (x : Nat) : Bool := has r x != prev r x
def trans (r : Nat → Bool) : List Nat := (List.range 81).filter (tr r)
def transFrom (r : Nat → Bool) (x : Nat) : List Nat := (List.range' x (81 - x)).filter (tr r)
def pairs : List Nat → List (Nat × Nat)
  | a :: b :: l => (a, b) :: pairs l
  | _ => []
def runEnd (r : Nat → Bool) (x : Nat) : Nat := if x < 80 ∧ r x = true then runEnd r (x + 1) else x
termination_by 80 - x
theorem runEnd_ge (r : Nat → Bool) (x : Nat) : x ≤ runEnd r x := by
  rw [runEnd]; split
  · have := runEnd_ge r (x + 1); omega
  · exact Nat.le_refl x
termination_by 80 - x
theorem runEnd_le (r : Nat → Bool) (x : Nat) (h : x ≤ 80) : runEnd r x ≤ 80 := by
  rw [runEnd]; split
  · exact runEnd_le r (x + 1) (by omega)
  · exact h
termination_by 80 - x
theorem runEnd_has (r : Nat → Bool) (x : Nat) : has r (runEnd r x) = false := by
  rw [runEnd]; split
  · exact runEnd_has r (x + 1)
  · rename_i h; simp only [has]; cases hr : r x <;> simp_all
termination_by 80 - x
theorem runEnd_in (r : Nat → Bool) (x : Nat) : ∀ z, x ≤ z → z < runEnd r x → has r z = true := by
  intro z h1 h2
  rw [runEnd] at h2; split at h2
  · rename_i h
    by_cases e : z = x
    · subst e; simp [has, h]
    · exact runEnd_in r (x + 1) z (by omega) h2
  · omega
termination_by 80 - x
def runsFrom (r : Nat → Bool) (x : Nat) : List (Nat × Nat) :=
  if x < 80 then
    if r x then (x, runEnd r (x + 1)) :: runsFrom r (runEnd r (x + 1) + 1) else runsFrom r (x + 1)
  else []
termination_by 80 - x
decreasing_by
  · have := runEnd_ge r (x + 1); omega
  · omega
theorem transFrom_step (r : Nat → Bool) (x : Nat) (h : x ≤ 80) : transFrom r x = if tr r x then x :: transFrom r (x + 1) else transFrom r (x + 1) := by
  unfold transFrom
  rw [show 81 - x = (81 - (x + 1)) + 1 by omega, List.range'_succ, List.filter_cons]
theorem prev_succ (r : Nat → Bool) (x : Nat) : prev r (x + 1) = has r x := by simp [prev]
theorem transFrom_run (r : Nat → Bool) (x : Nat) (h : x ≤ 80) (hp : prev r x = true) : transFrom r x = runEnd r x :: transFrom r (runEnd r x + 1) := by
  rw [transFrom_step r x h, runEnd]
  by_cases hx : x < 80 ∧ r x = true
  · rw [if_pos hx]
    have h1 : has r x = true := by simp [has, hx]
    have h2 : tr r x = false := by simp [tr, h1, hp]
    rw [h2, if_neg (by simp)]
    exact transFrom_run r (x + 1) (by omega) (by rw [prev_succ]; exact h1)
  · rw [if_neg hx]
    have h1 : has r x = false := by simp only [has]; cases hr : r x <;> simp_all
    have h2 : tr r x = true := by simp [tr, h1, hp]
    rw [h2, if_pos rfl]
termination_by 80 - x
theorem pairs_trans (r : Nat → Bool) (x : Nat) (hp : prev r x = false) : pairs (transFrom r x) = runsFrom r x := by
  rw [runsFrom]
  by_cases hx : x < 80
  · rw [if_pos hx, transFrom_step r x (by omega)]
    by_cases hr : r x = true
    · have h1 : has r x = true := by simp [has, hx, hr]
      have h2 : tr r x = true := by simp [tr, h1, hp]
      rw [h2, if_pos rfl, if_pos hr, transFrom_run r (x + 1) (by omega) (by rw [prev_succ]; exact h1), pairs]
      congr 1
      have := runEnd_ge r (x + 1)
      exact pairs_trans r (runEnd r (x + 1) + 1) (by rw [prev_succ]; exact runEnd_has r _)
    · have h1 : has r x = false := by simp [has, hr]
      have h2 : tr r x = false := by simp [tr, h1, hp]
      rw [h2, if_neg (by simp), if_neg hr]
      exact pairs_trans r (x + 1) (by rw [prev_succ]; exact h1)
  · rw [if_neg hx]
    by_cases e : x = 80
    · subst e
      rw [transFrom_step r 80 (by omega)]
      have h2 : tr r 80 = false := by simp [tr, has, hp]
      rw [h2, if_neg (by simp)]
      simp [transFrom, pairs]
    · unfold transFrom; rw [show 81 - x = 0 by omega]; simp [pairs]
termination_by 80 - x
theorem pairs_trans0 (r : Nat → Bool) : pairs (trans r) = runsFrom r 0 := by
  have : trans r = transFrom r 0 := by unfold trans transFrom; rw [List.range_eq_range']
  rw [this]; exact pairs_trans r 0 (by simp [prev])
theorem trans_inj {r q : Nat → Bool} (h : trans r = trans q) : ∀ x, x < 80 → r x = q x := by
  have ht : ∀ x, x < 81 → tr r x = tr q x := fun x hx => by
    have h1 : x ∈ trans r ↔ x ∈ trans q := by rw [h]
    simp only [trans, List.mem_filter, List.mem_range, hx, true_and] at h1
    cases h2 : tr r x <;> cases h3 : tr q x <;> simp_all
  have hh : ∀ x, x < 81 → has r x = has q x := by
    intro x
    induction x with
    | zero => intro hx; have := ht 0 hx; simpa [tr, prev] using this
    | succ x ih =>
      intro hx
      have h1 := ht (x + 1) hx
      have h2 := ih (by omega)
      simp only [tr, prev_succ, h2] at h1
      cases h3 : has q x <;> simp_all
  intro x hx
  have := hh x (by omega)
  simpa [has, hx] using this
theorem trans_congr {r q : Nat → Bool} (h : ∀ x, x < 80 → r x = q x) : trans r = trans q := by
  have hh : ∀ x, has r x = has q x := fun x => by
    by_cases hx : x < 80
    · simp [has, h x hx]
    · simp [has, hx]
  have : tr r = tr q := by funext x; simp [tr, prev, hh]
  simp [trans, this]
theorem trans_lt (r : Nat → Bool) : ∀ x ∈ trans r, x ≤ 80 := by
  intro x hx
  have := (List.mem_filter.1 hx).1
  have := List.mem_range.1 this; omega

/-! ## a grid of 80 rows of 80 cells -/
def gb (bs : List Bool) (y x : Nat) : Bool := gd bs (y * 80 + x)
def rowsEq (bs : List Bool) (e y : Nat) : Bool := decide (trans (gb bs e) = trans (gb bs y))
def endFrom (bs : List Bool) (y e : Nat) : Nat := if e < 80 ∧ rowsEq bs e y = true then endFrom bs y (e + 1) else e
termination_by 80 - e
theorem endFrom_ge (bs : List Bool) (y e : Nat) : e ≤ endFrom bs y e := by
  rw [endFrom]; split
  · have := endFrom_ge bs y (e + 1); omega
  · exact Nat.le_refl e
termination_by 80 - e
theorem endFrom_le (bs : List Bool) (y e : Nat) (h : e ≤ 80) : endFrom bs y e ≤ 80 := by
  rw [endFrom]; split
  · exact endFrom_le bs y (e + 1) (by omega)
  · exact h
termination_by 80 - e
theorem endFrom_eq (bs : List Bool) (y e : Nat) : ∀ z, e ≤ z → z < endFrom bs y e → rowsEq bs z y = true := by
  intro z h1 h2
  rw [endFrom] at h2; split at h2
  · rename_i h
    by_cases c : z = e
    · subst c; exact h.2
    · exact endFrom_eq bs y (e + 1) z (by omega) h2
  · omega
termination_by 80 - e
def mkR (y e : Nat) (p : Nat × Nat) : Rect := ⟨(p.1 : Int) - 40, (y : Int) - 40, (p.2 : Int) - 40, (e : Int) - 40⟩
def canonFrom (bs : List Bool) (y : Nat) : List Rect :=
  if y < 80 then (runsFrom (gb bs y) 0).map (mkR y (endFrom bs y (y + 1))) ++ canonFrom bs (endFrom bs y (y + 1)) else []
termination_by 80 - y
decreasing_by have := endFrom_ge bs y (y + 1); omega
def canon (bs : List Bool) : List Rect := canonFrom bs 0
def rowL (bs : List Bool) (y : Nat) : List Bool := (bs.drop (y * 80)).take 80
theorem rowL_length {bs : List Bool} {y : Nat} (h : bs.length = 6400) (hy : y < 80) : (rowL bs y).length = 80 := by simp [rowL]; omega
theorem rowL_get {bs : List Bool} {y x : Nat} (h : bs.length = 6400) (hy : y < 80) (hx : x < 80) : (rowL bs y)[x]? = some (gb bs y x) := by
  have : y * 80 + x < bs.length := by omega
  simp [rowL, gb, gd, hx, this]
theorem rowL_eq {bs : List Bool} {e y : Nat} (h : bs.length = 6400) (he : e < 80) (hy : y < 80) : decide (rowL bs e = rowL bs y) = rowsEq bs e y := by
  rw [rowsEq, decide_eq_decide]
  constructor
  · intro h1
    refine trans_congr fun x hx => ?_
    have h2 := rowL_get h he hx
    rw [h1, rowL_get h hy hx] at h2
    exact (Option.some.inj h2).symm
  · intro h1
    apply List.ext_getElem?
    intro x
    by_cases hx : x < 80
    · rw [rowL_get h he hx, rowL_get h hy hx, trans_inj h1 x hx]
    · rw [List.getElem?_eq_none (by rw [rowL_length h he]; omega), List.getElem?_eq_none (by rw [rowL_length h hy]; omega)]

/-! ## the cells of rectangles -/
def inR (r : Rect) (y x : Nat) : Bool := decide (r.x0 + 40 ≤ x) && decide ((x : Int) < r.x1 + 40) && decide (r.y0 + 40 ≤ y) && decide ((y : Int) < r.y1 + 40)
def bits (rs : List Rect) : List Bool := (List.range 6400).map fun k => rs.any fun r => inR r (k / 80) (k % 80)
theorem bits_length (rs : List Rect) : (bits rs).length = 6400 := by simp [bits]
theorem bits_eq {rs : List Rect} {bs : List Bool} (h : bs.length = 6400) (hg : ∀ y x, y < 80 → x < 80 → gb bs y x = rs.any fun r => inR r y x) : bs = bits rs := by
  apply List.ext_getElem?
  intro k
  by_cases hk : k < 6400
  · have h1 := hg (k / 80) (k % 80) (by omega) (by omega)
    have e : k / 80 * 80 + k % 80 = k := by omega
    rw [gb, e] at h1
    rw [getG (by omega), h1]; simp [bits, hk]
  · rw [List.getElem?_eq_none (by omega), List.getElem?_eq_none (by simp [bits]; omega)]
end Go.Proofs.YthjaopefoiploaaGreat
