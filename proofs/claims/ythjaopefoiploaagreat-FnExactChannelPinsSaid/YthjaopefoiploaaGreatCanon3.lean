/-
  Plain: the area of a canonical list is the number of its cells.
-/
import Derived.Test.YthjaopefoiploaaGreatCanon2
namespace Go.Proofs.YthjaopefoiploaaGreat
def rcnt (r : Nat → Bool) (x : Nat) : Nat := if x < 80 then (bif r x then 1 else 0) + rcnt r (x + 1) else 0
termination_by 80 - x
theorem rcnt_congr {r q : Nat → Bool} (h : ∀ x, x < 80 → r x = q x) (x : Nat) : rcnt r x = rcnt q x := by
  rw [rcnt.eq_1 r x, rcnt.eq_1 q x]
  by_cases hx : x < 80
  · rw [if_pos hx, if_pos hx, h x hx, rcnt_congr h (x + 1)]
  · rw [if_neg hx, if_neg hx]
termination_by 80 - x
theorem rcnt_run (r : Nat → Bool) (x : Nat) (hx : x ≤ 80) : rcnt r x = (runEnd r x - x) + rcnt r (runEnd r x) := by
  rw [runEnd]
  by_cases h : x < 80 ∧ r x = true
  · rw [if_pos h]
    have ih := rcnt_run r (x + 1) (by omega)
    have h1 := runEnd_ge r (x + 1)
    rw [rcnt, if_pos h.1, h.2, ih]; simp only [cond_true]; omega
  · rw [if_neg h]; omega
termination_by 80 - x
theorem rcnt_skip (r : Nat → Bool) (x : Nat) (h : has r x = false) : rcnt r x = rcnt r (x + 1) := by
  rw [rcnt]
  by_cases hx : x < 80
  · rw [if_pos hx]
    have : r x = false := by simpa [has, hx] using h
    rw [this]; simp
  · rw [if_neg hx, rcnt, if_neg (by omega)]
theorem wsum_rcnt (r : Nat → Bool) (x : Nat) : wsum (runsFrom r x) = rcnt r x := by
  rw [runsFrom]
  by_cases hx : x < 80
  · rw [if_pos hx]
    by_cases hr : r x = true
    · rw [if_pos hr]
      have h1 := runEnd_ge r (x + 1)
      have ih := wsum_rcnt r (runEnd r (x + 1) + 1)
      have h2 := rcnt_run r (x + 1) (by omega)
      have h3 := rcnt_skip r (runEnd r (x + 1)) (runEnd_has r _)
      rw [rcnt, if_pos hx, hr, h2, h3, wsum, ih]; simp only [cond_true]; omega
    · rw [if_neg hr, wsum_rcnt r (x + 1)]
      rw [rcnt_skip r x (by simp [has, hr])]
  · rw [if_neg hx, rcnt, if_neg hx]; rfl
termination_by 80 - x
decreasing_by
  · have := runEnd_ge r (x + 1); omega
  · omega
def gcnt (bs : List Bool) (y : Nat) : Nat := if y < 80 then rcnt (gb bs y) 0 + gcnt bs (y + 1) else 0
termination_by 80 - y
theorem gcnt_run (bs : List Bool) (c : Nat) : ∀ (n y : Nat), y + n ≤ 80 → (∀ z, y ≤ z → z < y + n → rcnt (gb bs z) 0 = c) → gcnt bs y = n * c + gcnt bs (y + n)
  | 0, y, _, _ => by simp
  | n + 1, y, hy, h => by
    have ih := gcnt_run bs c n (y + 1) (by omega) (fun z h1 h2 => h z (by omega) (by omega))
    rw [gcnt, if_pos (by omega), h y (by omega) (by omega), ih, Nat.add_mul, Nat.one_mul, show y + 1 + n = y + (n + 1) by omega]; omega
theorem area_gcnt (bs : List Bool) (y : Nat) : areaS (canonFrom bs y) = ((gcnt bs y : Nat) : Int) := by
  rw [canonFrom]
  by_cases h : y < 80
  · rw [if_pos h, areaS_append]
    have h1 := endFrom_ge bs y (y + 1)
    have h2 := endFrom_le bs y (y + 1) (by omega)
    have ih := area_gcnt bs (endFrom bs y (y + 1))
    rw [area_map (by omega) _ (runs_mem _ _), ih, wsum_rcnt]
    have h3 := gcnt_run bs (rcnt (gb bs y) 0) (endFrom bs y (y + 1) - y) y (by omega) (fun z hz1 hz2 => by
      by_cases c : z = y
      · rw [c]
      · exact rcnt_congr (rowsEq_gb' (endFrom_eq bs y (y + 1) z (by omega) (by omega))) 0)
    rw [h3, show y + (endFrom bs y (y + 1) - y) = endFrom bs y (y + 1) by omega, Nat.mul_comm]; omega
  · rw [if_neg h, gcnt, if_neg h]; rfl
termination_by 80 - y
decreasing_by have := endFrom_ge bs y (y + 1); omega
theorem row_cnt {bs : List Bool} (hl : bs.length = 6400) (y : Nat) (hy : y < 80) : ∀ (n x : Nat), x + n = 80 → ((bs.drop (y * 80 + x)).take n).count true = rcnt (gb bs y) x
  | 0, x, h => by rw [rcnt, if_neg (by omega)]; simp
  | n + 1, x, h => by
    have ih := row_cnt hl y hy n (x + 1) (by omega)
    have hlt : y * 80 + x < bs.length := by omega
    rw [List.drop_eq_getElem_cons hlt, List.take_succ_cons, List.count_cons, rcnt.eq_1 _ x, if_pos (show x < 80 by omega), show y * 80 + x + 1 = y * 80 + (x + 1) by omega, ih, gb, gd_eq hlt]
    cases bs[y * 80 + x] <;> simp [Nat.add_comm]
theorem count_gcnt {bs : List Bool} (hl : bs.length = 6400) (y : Nat) : (bs.drop (y * 80)).count true = gcnt bs y := by
  rw [gcnt]
  by_cases h : y < 80
  · rw [if_pos h, ← count_gcnt hl (y + 1), ← row_cnt hl y h 80 0 (by omega)]
    have e : bs.drop ((y + 1) * 80) = (bs.drop (y * 80)).drop 80 := by rw [List.drop_drop]; congr 1; omega
    rw [e, Nat.add_zero, ← List.count_append, List.take_append_drop]
  · rw [if_neg h, List.drop_eq_nil_of_le (by omega)]; rfl
termination_by 80 - y
/-- the number of cells of a set -/
def cnt (bs : List Bool) : Int := bs.count true
theorem cnt_canon {bs : List Bool} (hl : bs.length = 6400) : areaS (canon bs) = cnt bs := by
  rw [canon, area_gcnt, ← count_gcnt hl 0]; simp [cnt]
theorem cnt_take {bs : List Bool} {i : Nat} (h : i < bs.length) : cnt (bs.take (i + 1)) = cnt (bs.take i) + (bif gd bs i then 1 else 0) := by
  rw [List.take_add_one, getG h, cnt, cnt, List.count_append]
  cases gd bs i <;> simp
theorem cnt_le (bs : List Bool) : 0 ≤ cnt bs ∧ cnt bs ≤ bs.length := by
  have := List.count_le_length (a := true) (l := bs)
  simp only [cnt]; omega
end Go.Proofs.YthjaopefoiploaaGreat
