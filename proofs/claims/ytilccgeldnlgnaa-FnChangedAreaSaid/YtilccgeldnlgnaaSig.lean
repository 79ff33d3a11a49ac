/-
  Plain: turns, moves, boxes, hashes, signatures of regions.
-/
import Derived.Test.YtilccgeldnlgnaaCanon2
namespace Go.Proofs.Ytilccgeldnlgnaa

/-! ## turns and moves -/
def rot : Nat → Pt → Pt
  | 0, p => p
  | n + 1, p => rot n ⟨-p.y, p.x⟩
def flip (o : Int) (p : Pt) : Pt := if 4 ≤ o then ⟨p.x, -p.y⟩ else p
def turnP (o : Int) (p : Pt) : Pt := rot (o % 4).toNat (flip o p)
def InB (b : Int) (p : Pt) : Prop := -b ≤ p.x ∧ p.x ≤ b ∧ -b ≤ p.y ∧ p.y ≤ b
theorem rot_in {b : Int} : ∀ (n : Nat) {p : Pt}, InB b p → InB b (rot n p)
  | 0, _, h => h
  | n + 1, p, h => rot_in n (by obtain ⟨h1, h2, h3, h4⟩ := h; exact ⟨by simp only; omega, by simp only; omega, h1, h2⟩)
theorem flip_in {b o : Int} {p : Pt} (h : InB b p) : InB b (flip o p) := by
  unfold flip; split
  · obtain ⟨h1, h2, h3, h4⟩ := h; exact ⟨h1, h2, by simp only; omega, by simp only; omega⟩
  · exact h
theorem turnP_in {b o : Int} {p : Pt} (h : InB b p) : InB b (turnP o p) := rot_in _ (flip_in h)
def moveP (t : Trans) (p : Pt) : Pt := ⟨(turnP t.o p).x + t.x, (turnP t.o p).y + t.y⟩
def moveR (t : Trans) (r : Rect) : Rect :=
  ⟨min (moveP t ⟨r.x0, r.y0⟩).x (moveP t ⟨r.x1, r.y1⟩).x, min (moveP t ⟨r.x0, r.y0⟩).y (moveP t ⟨r.x1, r.y1⟩).y, max (moveP t ⟨r.x0, r.y0⟩).x (moveP t ⟨r.x1, r.y1⟩).x, max (moveP t ⟨r.x0, r.y0⟩).y (moveP t ⟨r.x1, r.y1⟩).y⟩
/-- at most this far out -/
def RIn (b : Int) (r : Rect) : Prop := -b ≤ r.x0 ∧ r.x0 < r.x1 ∧ r.x1 ≤ b ∧ -b ≤ r.y0 ∧ r.y0 < r.y1 ∧ r.y1 ≤ b
theorem moveR_turn {o b : Int} (h : 0 ≤ o ∧ o ≤ 7) {r : Rect} (hr : RIn b r) : RIn b (moveR ⟨o, 0, 0⟩ r) := by
  obtain ⟨h1, h2, h3, h4, h5, h6⟩ := hr
  have ho : o = 0 ∨ o = 1 ∨ o = 2 ∨ o = 3 ∨ o = 4 ∨ o = 5 ∨ o = 6 ∨ o = 7 := by omega
  rcases ho with rfl | rfl | rfl | rfl | rfl | rfl | rfl | rfl <;> (simp [RIn, moveR, moveP, turnP, flip, rot]; omega)
@[reducible] def shiftR (dx dy : Int) (r : Rect) : Rect := ⟨r.x0 + dx, r.y0 + dy, r.x1 + dx, r.y1 + dy⟩
theorem moveR_shift {dx dy : Int} {r : Rect} (h : r.x0 < r.x1 ∧ r.y0 < r.y1) : moveR ⟨0, dx, dy⟩ r = shiftR dx dy r := by
  simp [moveR, moveP, turnP, flip, rot, shiftR]; omega

/-! ## boxes -/
@[reducible] def joinR (a r : Rect) : Rect := ⟨min a.x0 r.x0, min a.y0 r.y0, max a.x1 r.x1, max a.y1 r.y1⟩
def boxFrom (a : Rect) (xs : List Rect) : Rect := xs.foldl joinR a
def boxL (xs : List Rect) : Rect := boxFrom (gd xs 0) xs
theorem boxFrom_take {a : Rect} {xs : List Rect} {i : Nat} (h : i < xs.length) : boxFrom a (xs.take (i + 1)) = joinR (boxFrom a (xs.take i)) (gd xs i) := by
  rw [List.take_add_one, getG h, boxFrom, boxFrom, List.foldl_append]; rfl
theorem joinR_self (a : Rect) : joinR a a = a := by simp [joinR]
theorem boxFrom_one {xs : List Rect} (h : 0 < xs.length) : boxFrom (gd xs 0) (xs.take 1) = gd xs 0 := by
  rw [boxFrom_take h]; simp [boxFrom, joinR_self]
theorem boxFrom_le (xs : List Rect) : ∀ a : Rect, (boxFrom a xs).x0 ≤ a.x0 ∧ (boxFrom a xs).y0 ≤ a.y0 ∧ a.x1 ≤ (boxFrom a xs).x1 ∧ a.y1 ≤ (boxFrom a xs).y1 ∧ ∀ r ∈ xs, (boxFrom a xs).x0 ≤ r.x0 ∧ (boxFrom a xs).y0 ≤ r.y0 ∧ r.x1 ≤ (boxFrom a xs).x1 ∧ r.y1 ≤ (boxFrom a xs).y1 := by
  induction xs with
  | nil => intro a; exact ⟨Int.le_refl _, Int.le_refl _, Int.le_refl _, Int.le_refl _, fun r hr => by cases hr⟩
  | cons x xs ih =>
    intro a
    obtain ⟨h1, h2, h3, h4, h5⟩ := ih (joinR a x)
    simp only [joinR] at h1 h2 h3 h4
    have e : boxFrom a (x :: xs) = boxFrom (joinR a x) xs := rfl
    rw [e]
    refine ⟨?_, ?_, ?_, ?_, fun r hr => ?_⟩
    · exact Int.le_trans h1 (Int.min_le_left _ _)
    · exact Int.le_trans h2 (Int.min_le_left _ _)
    · exact Int.le_trans (Int.le_max_left _ _) h3
    · exact Int.le_trans (Int.le_max_left _ _) h4
    · rcases List.mem_cons.1 hr with rfl | hr
      · exact ⟨Int.le_trans h1 (Int.min_le_right _ _), Int.le_trans h2 (Int.min_le_right _ _), Int.le_trans (Int.le_max_right _ _) h3, Int.le_trans (Int.le_max_right _ _) h4⟩
      · exact h5 r hr
theorem boxFrom_in {b : Int} : ∀ (xs : List Rect) {a : Rect}, RIn b a → (∀ r ∈ xs, RIn b r) → RIn b (boxFrom a xs)
  | [], _, ha, _ => ha
  | x :: xs, a, ha, h => by
    have hx := h x (.head _)
    refine boxFrom_in xs (a := joinR a x) ?_ fun r hr => h r (.tail _ hr)
    simp only [RIn, joinR] at *; omega

/-! ## hashes -/
def hashI (h n : Int) : Int := (h * 1000003 + n + 1) % 2147483647
def hashL (h : Int) (l : List Int) : Int := l.foldl hashI h
theorem hashI_bd (h n : Int) : 0 ≤ hashI h n ∧ hashI h n < 2147483647 := ⟨Int.emod_nonneg _ (by omega), Int.emod_lt_of_pos _ (by omega)⟩
theorem hashL_bd {h : Int} : ∀ (l : List Int), 0 ≤ h ∧ h < 2147483647 → 0 ≤ hashL h l ∧ hashL h l < 2147483647 := by
  intro l
  induction l generalizing h with
  | nil => exact fun h => h
  | cons n l ih => exact fun _ => ih (hashI_bd h n)
theorem hashL_take {h : Int} {l : List Int} {i : Nat} (hi : i < l.length) : hashL h (l.take (i + 1)) = hashI (hashL h (l.take i)) (gd l i) := by
  rw [List.take_add_one, getG hi, hashL, hashL, List.foldl_append]; rfl
def hashR (h : Int) (r : Rect) : Int := hashI (hashI (hashI (hashI h (r.x0 + 40)) (r.y0 + 40)) (r.x1 + 40)) (r.y1 + 40)
def hashRs (h : Int) (l : List Rect) : Int := l.foldl hashR h
theorem hashRs_take {h : Int} {l : List Rect} {i : Nat} (hi : i < l.length) : hashRs h (l.take (i + 1)) = hashR (hashRs h (l.take i)) (gd l i) := by
  rw [List.take_add_one, getG hi, hashRs, hashRs, List.foldl_append]; rfl
theorem hashR_bd (h : Int) (r : Rect) : 0 ≤ hashR h r ∧ hashR h r < 2147483647 := hashI_bd _ _
theorem hashRs_bd {h : Int} : ∀ (l : List Rect), 0 ≤ h ∧ h < 2147483647 → 0 ≤ hashRs h l ∧ hashRs h l < 2147483647 := by
  intro l
  induction l generalizing h with
  | nil => exact fun h => h
  | cons n l ih => exact fun _ => ih (hashR_bd h n)

/-! ## the signature -/
def imgs (xs : List Rect) (o : Int) : List Rect := xs.map (moveR ⟨o, 0, 0⟩)
def shifted (im : List Rect) : List Rect := im.map (shiftR (-40 - (boxL im).x0) (-40 - (boxL im).y0))
def sigO (xs : List Rect) (o : Int) : Int := hashRs 17 (canon (bits (shifted (imgs xs o))))
def sigTo (xs : List Rect) : Nat → Int
  | 0 => sigO xs 0
  | n + 1 => min (sigTo xs n) (sigO xs (n + 1))
theorem sigO_bd (xs : List Rect) (o : Int) : 0 ≤ sigO xs o ∧ sigO xs o < 2147483647 := hashRs_bd _ (by omega)
theorem sigTo_bd (xs : List Rect) : ∀ n, 0 ≤ sigTo xs n ∧ sigTo xs n < 2147483647
  | 0 => sigO_bd xs 0
  | n + 1 => by
    have h1 := sigTo_bd xs n
    have h2 := sigO_bd xs (n + 1)
    simp only [sigTo]; omega
theorem imgs_in {xs : List Rect} {o : Int} (ho : 0 ≤ o ∧ o ≤ 7) (h : ∀ r ∈ xs, RIn 40 r) : ∀ r ∈ imgs xs o, RIn 40 r := by
  intro r hr
  obtain ⟨q, hq, rfl⟩ := List.mem_map.1 hr
  exact moveR_turn ho (h q hq)
theorem boxL_in {im : List Rect} (h0 : 0 < im.length) (h : ∀ r ∈ im, RIn 40 r) : RIn 40 (boxL im) :=
  boxFrom_in im (by rw [gd_eq h0]; exact h _ (List.getElem_mem _)) h
theorem shifted_in {im : List Rect} (h0 : 0 < im.length) (h : ∀ r ∈ im, RIn 40 r) : ∀ r ∈ im, RIn 40 (shiftR (-40 - (boxL im).x0) (-40 - (boxL im).y0) r) := by
  intro r hr
  have h1 := boxL_in h0 h
  have h2 := (boxFrom_le im (gd im 0)).2.2.2.2 r hr
  have h3 := h r hr
  simp only [boxL] at *
  simp only [RIn, shiftR] at *; omega
end Go.Proofs.Ytilccgeldnlgnaa
