/-
  Plain: sets of cells grown by a distance.
-/
import Derived.Test.YthjaopefoiploaaGreatCanon3
namespace Go.Proofs.YthjaopefoiploaaGreat
def inI (n lo hi : Int) : Bool := decide (lo ≤ n) && decide (n ≤ hi)
def hasC (bs : List Bool) (x y : Int) : Bool := inI x (-40) 39 && inI y (-40) 39 && gd bs ((y + 40) * 80 + x + 40).toNat
theorem hasC_gb {bs : List Bool} {y x : Nat} (hy : y < 80) (hx : x < 80) : hasC bs ((x : Int) - 40) ((y : Int) - 40) = gb bs y x := by
  have h1 : inI ((x : Int) - 40) (-40) 39 = true := by simp [inI]; omega
  have h2 : inI ((y : Int) - 40) (-40) 39 = true := by simp [inI]; omega
  have h3 : (((y : Int) - 40 + 40) * 80 + ((x : Int) - 40) + 40).toNat = y * 80 + x := by omega
  rw [hasC, h1, h2, h3, gb]; rfl
theorem hasC_iff {bs : List Bool} {x y : Int} : hasC bs x y = true ↔ ∃ y' x' : Nat, y' < 80 ∧ x' < 80 ∧ (y' : Int) = y + 40 ∧ (x' : Int) = x + 40 ∧ gb bs y' x' = true := by
  constructor
  · intro h
    have h' := h
    simp only [hasC, inI, Bool.and_eq_true, decide_eq_true_eq] at h
    refine ⟨(y + 40).toNat, (x + 40).toNat, by omega, by omega, by omega, by omega, ?_⟩
    rw [← hasC_gb (by omega) (by omega)]
    rw [show (((x + 40).toNat : Nat) : Int) - 40 = x by omega, show (((y + 40).toNat : Nat) : Int) - 40 = y by omega]; exact h'
  · rintro ⟨y', x', h1, h2, h3, h4, h5⟩
    rw [← hasC_gb h1 h2] at h5
    rwa [show (x' : Int) - 40 = x by omega, show (y' : Int) - 40 = y by omega] at h5
def anyTo (c : Int → Bool) (k d : Int) : Bool := (List.range (d + k).toNat).any fun n => c ((n : Int) - k)
theorem anyTo_zero (c : Int → Bool) (k : Int) : anyTo c k (-k) = false := by
  rw [anyTo, show (-k + k).toNat = 0 by omega]; rfl
theorem anyTo_succ (c : Int → Bool) {k d : Int} (h : -k ≤ d) : anyTo c k (d + 1) = (anyTo c k d || c d) := by
  rw [anyTo, anyTo, show (d + 1 + k).toNat = (d + k).toNat + 1 by omega, List.range_succ, List.any_append]
  simp only [List.any_cons, List.any_nil, Bool.or_false]
  rw [show (((d + k).toNat : Nat) : Int) - k = d by omega]
theorem anyTo_iff (c : Int → Bool) (k d : Int) : anyTo c k d = true ↔ ∃ e, -k ≤ e ∧ e < d ∧ c e = true := by
  rw [anyTo, List.any_eq_true]
  constructor
  · rintro ⟨n, hn, hc⟩
    rw [List.mem_range] at hn
    exact ⟨n - k, by omega, by omega, hc⟩
  · rintro ⟨e, h1, h2, h3⟩
    exact ⟨(e + k).toNat, by rw [List.mem_range]; omega, by rw [show (((e + k).toNat : Nat) : Int) - k = e by omega]; exact h3⟩
/-- a cell's neighbours along a row (ac) or a column -/
def cnd (ac : Bool) (bs : List Bool) (x y d : Int) : Bool := (ac && hasC bs (x + d) y) || (!ac && hasC bs x (y + d))
def rowG (ac : Bool) (bs : List Bool) (k : Int) (y x : Nat) : Bool := anyTo (cnd ac bs ((x : Int) - 40) ((y : Int) - 40)) k (k + 1)
def rowBits (ac : Bool) (bs : List Bool) (k : Int) : List Bool := (List.range 6400).map fun j => rowG ac bs k (j / 80) (j % 80)
theorem rowBits_len (ac : Bool) (bs : List Bool) (k : Int) : (rowBits ac bs k).length = 6400 := by simp [rowBits]
theorem gb_row {ac : Bool} {bs : List Bool} {k : Int} {y x : Nat} (hy : y < 80) (hx : x < 80) : gb (rowBits ac bs k) y x = rowG ac bs k y x := by
  have h : y * 80 + x < 6400 := by omega
  have e1 : (y * 80 + x) / 80 = y := by omega
  have e2 : (y * 80 + x) % 80 = x := by omega
  rw [gb, gd_eq (by rw [rowBits_len]; exact h)]
  simp [rowBits, e1, e2]
theorem gb_ext {as bs : List Bool} (h : as.length = 6400) (h' : bs.length = 6400) (hg : ∀ y x, y < 80 → x < 80 → gb as y x = gb bs y x) : as = bs := by
  apply List.ext_getElem?
  intro k
  by_cases hk : k < 6400
  · have h1 := hg (k / 80) (k % 80) (by omega) (by omega)
    have e : k / 80 * 80 + k % 80 = k := by omega
    rw [gb, gb, e] at h1
    rw [getG (by omega), getG (by omega), h1]
  · rw [List.getElem?_eq_none (by omega), List.getElem?_eq_none (by omega)]
theorem rowG_across {bs : List Bool} {k : Int} {y x : Nat} (hy : y < 80) : rowG true bs k y x = true ↔ ∃ x' : Nat, x' < 80 ∧ (x : Int) - k ≤ x' ∧ (x' : Int) ≤ x + k ∧ gb bs y x' = true := by
  rw [rowG, anyTo_iff]
  constructor
  · rintro ⟨e, h1, h2, h3⟩
    simp only [cnd, Bool.true_and, Bool.not_true, Bool.false_and, Bool.or_false] at h3
    obtain ⟨y', x', q1, q2, q3, q4, q5⟩ := hasC_iff.1 h3
    have : y' = y := by omega
    subst this
    exact ⟨x', q2, by omega, by omega, q5⟩
  · rintro ⟨x', h1, h2, h3, h4⟩
    refine ⟨(x' : Int) - x, by omega, by omega, ?_⟩
    simp only [cnd, Bool.true_and, Bool.not_true, Bool.false_and, Bool.or_false]
    exact hasC_iff.2 ⟨y, x', hy, h1, by omega, by omega, h4⟩
theorem rowG_down {bs : List Bool} {k : Int} {y x : Nat} (hx : x < 80) : rowG false bs k y x = true ↔ ∃ y' : Nat, y' < 80 ∧ (y : Int) - k ≤ y' ∧ (y' : Int) ≤ y + k ∧ gb bs y' x = true := by
  rw [rowG, anyTo_iff]
  constructor
  · rintro ⟨e, h1, h2, h3⟩
    simp only [cnd, Bool.false_and, Bool.not_false, Bool.true_and, Bool.false_or] at h3
    obtain ⟨y', x', q1, q2, q3, q4, q5⟩ := hasC_iff.1 h3
    have : x' = x := by omega
    subst this
    exact ⟨y', q1, by omega, by omega, q5⟩
  · rintro ⟨y', h1, h2, h3, h4⟩
    refine ⟨(y' : Int) - y, by omega, by omega, ?_⟩
    simp only [cnd, Bool.false_and, Bool.not_false, Bool.true_and, Bool.false_or]
    exact hasC_iff.2 ⟨y', x, h1, hx, by omega, by omega, h4⟩
def growB (bs : List Bool) (k : Int) : List Bool := rowBits false (rowBits true bs k) k
theorem growB_len (bs : List Bool) (k : Int) : (growB bs k).length = 6400 := rowBits_len _ _ _
theorem growB_iff {bs : List Bool} {k : Int} {y x : Nat} (hy : y < 80) (hx : x < 80) : gb (growB bs k) y x = true ↔ ∃ y' x' : Nat, y' < 80 ∧ x' < 80 ∧ (y : Int) - k ≤ y' ∧ (y' : Int) ≤ y + k ∧ (x : Int) - k ≤ x' ∧ (x' : Int) ≤ x + k ∧ gb bs y' x' = true := by
  rw [growB, gb_row hy hx, rowG_down hx]
  constructor
  · rintro ⟨y', h1, h2, h3, h4⟩
    rw [gb_row h1 hx, rowG_across h1] at h4
    obtain ⟨x', q1, q2, q3, q4⟩ := h4
    exact ⟨y', x', h1, q1, h2, h3, q2, q3, q4⟩
  · rintro ⟨y', x', h1, h2, h3, h4, h5, h6, h7⟩
    exact ⟨y', h1, h3, h4, by rw [gb_row h1 hx, rowG_across h1]; exact ⟨x', h2, h5, h6, h7⟩⟩
@[reducible] def enl (k : Int) (r : Rect) : Rect := ⟨r.x0 - k, r.y0 - k, r.x1 + k, r.y1 + k⟩
theorem gb_bits' (rs : List Rect) {y x : Nat} (hy : y < 80) (hx : x < 80) : gb (bits rs) y x = rs.any fun r => inR r y x := by
  have h : y * 80 + x < 6400 := by omega
  have e1 : (y * 80 + x) / 80 = y := by omega
  have e2 : (y * 80 + x) % 80 = x := by omega
  rw [gb, gd_eq (by rw [bits_length]; exact h)]
  simp [bits, e1, e2]
theorem clamp {lo hi y k : Int} (h0 : 0 ≤ lo) (h : lo < hi) (hk : 0 ≤ k) (h1 : lo - k ≤ y) (h2 : y < hi + k) : ∃ c : Nat, lo ≤ c ∧ (c : Int) < hi ∧ y - k ≤ c ∧ (c : Int) ≤ y + k := by
  by_cases a : y < lo
  · exact ⟨lo.toNat, by omega, by omega, by omega, by omega⟩
  · by_cases b : y < hi
    · exact ⟨y.toNat, by omega, by omega, by omega, by omega⟩
    · exact ⟨(hi - 1).toNat, by omega, by omega, by omega, by omega⟩
theorem grow_enl {xs : List Rect} {k : Int} (hk : 0 ≤ k) (hx : ∀ r ∈ xs, -40 ≤ r.x0 ∧ r.x0 < r.x1 ∧ r.x1 ≤ 40 ∧ -40 ≤ r.y0 ∧ r.y0 < r.y1 ∧ r.y1 ≤ 40) {y x : Nat} (hy : y < 80) (hx' : x < 80) : (xs.any fun r => inR (enl k r) y x) = gb (growB (bits xs) k) y x := by
  rw [Bool.eq_iff_iff, growB_iff hy hx', List.any_eq_true]
  constructor
  · rintro ⟨r, hr, h⟩
    have hb := hx r hr
    simp [inR, enl] at h
    obtain ⟨y', a1, a2, a3, a4⟩ := clamp (lo := r.y0 + 40) (hi := r.y1 + 40) (y := (y : Int)) (k := k) (by omega) (by omega) hk (by omega) (by omega)
    obtain ⟨x', b1, b2, b3, b4⟩ := clamp (lo := r.x0 + 40) (hi := r.x1 + 40) (y := (x : Int)) (k := k) (by omega) (by omega) hk (by omega) (by omega)
    refine ⟨y', x', by omega, by omega, a3, a4, b3, b4, ?_⟩
    rw [gb_bits' xs (by omega) (by omega), List.any_eq_true]
    refine ⟨r, hr, ?_⟩
    simp [inR]; omega
  · rintro ⟨y', x', h1, h2, h3, h4, h5, h6, h7⟩
    rw [gb_bits' xs h1 h2, List.any_eq_true] at h7
    obtain ⟨r, hr, h⟩ := h7
    refine ⟨r, hr, ?_⟩
    simp [inR, enl] at h ⊢; omega
theorem area_pos {r : Rect} (h : r.x0 < r.x1 ∧ r.y0 < r.y1) : 0 < areaR r := Int.mul_pos (by omega) (by omega)
theorem canon_nil {bs : List Bool} (hl : bs.length = 6400) : (canon bs).length = 0 ↔ cnt bs = 0 := by
  rw [← cnt_canon hl]
  constructor
  · intro h; rw [List.eq_nil_of_length_eq_zero h]; rfl
  · intro h
    rcases hc : canon bs with _ | ⟨r, l⟩
    · rfl
    · exfalso
      have hm := canonFrom_mem bs 0
      have hc' : canonFrom bs 0 = r :: l := hc
      rw [hc'] at hm
      have h1 := area_pos (r := r) (by have := hm r (.head _); omega)
      have h2 : ∀ m : List Rect, (∀ q ∈ m, q.x0 < q.x1 ∧ q.y0 < q.y1) → 0 ≤ areaS m := by
        intro m
        induction m with
        | nil => intro _; exact Int.le_refl _
        | cons q m ih =>
          intro hq
          have a := area_pos (hq q (.head _))
          have b := ih fun p hp => hq p (.tail _ hp)
          simp only [areaS]; omega
      have h3 := h2 l fun q hq => by have := hm q (.tail _ hq); omega
      rw [hc, areaS] at h; omega
end Go.Proofs.YthjaopefoiploaaGreat
