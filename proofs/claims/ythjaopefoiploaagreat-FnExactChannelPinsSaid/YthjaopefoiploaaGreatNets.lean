/-
  Plain: rectangles that meet; joined pieces; the classes of pieces; nets.
-/
import Derived.Test.YthjaopefoiploaaGreatW20
import Derived.Test.YthjaopefoiploaaGreatGrow
namespace Go.Proofs.YthjaopefoiploaaGreat
open Go
set_option linter.unusedSimpArgs false
theorem costL_bd {α : Type} {n : α → Int} {B : Int} : ∀ {xs : List α}, (∀ x ∈ xs, n x ≤ B) → costL n xs ≤ B * xs.length
  | [], _ => by simp [costL]
  | x :: xs, h => by
    have h1 := h x (.head _)
    have h2 := costL_bd (xs := xs) fun y hy => h y (.tail _ hy)
    simp only [costL, List.length_cons]; rw [Int.natCast_succ, Int.mul_add]; omega
/-! ## rectangles that meet -/
def cmn (a b : Rect) : Rect := ⟨max a.x0 b.x0, max a.y0 b.y0, min a.x1 b.x1, min a.y1 b.y1⟩
def ovl (a b : Rect) : Bool := validRect a && validRect b && validRect (cmn a b)
def meetB (a b : List Rect) : Bool := a.any fun x => b.any fun y => ovl x y
def meetIn (a b c : List Rect) : Bool := a.any fun x => b.any fun y => validRect (cmn x y) && meetB [cmn x y] c
theorem validR_iff {r : Rect} : validRect r = true ↔ -40 ≤ r.x0 ∧ r.x0 < r.x1 ∧ r.x1 ≤ 40 ∧ -40 ≤ r.y0 ∧ r.y0 < r.y1 ∧ r.y1 ≤ 40 := by simp [validRect, and_assoc]
theorem inR_iff {r : Rect} {y x : Nat} : inR r y x = true ↔ r.x0 + 40 ≤ x ∧ (x : Int) < r.x1 + 40 ∧ r.y0 + 40 ≤ y ∧ (y : Int) < r.y1 + 40 := by simp [inR, and_assoc]
theorem inR_cmn {a b : Rect} {y x : Nat} : inR (cmn a b) y x = true ↔ inR a y x = true ∧ inR b y x = true := by
  simp only [inR_iff, cmn]; omega
theorem valid_cell {r : Rect} (h : validRect r = true) : ∃ y x, y < 80 ∧ x < 80 ∧ inR r y x = true := by
  rw [validR_iff] at h
  exact ⟨(r.y0 + 40).toNat, (r.x0 + 40).toNat, by omega, by omega, inR_iff.2 (by omega)⟩
theorem inR_lt {r : Rect} (h : validRect r = true) {y x : Nat} (hi : inR r y x = true) : y < 80 ∧ x < 80 := by
  rw [validR_iff] at h; rw [inR_iff] at hi; omega
theorem cmn_valid {a b : Rect} (ha : validRect a = true) (hb : validRect b = true) {y x : Nat} (h1 : inR a y x = true) (h2 : inR b y x = true) : validRect (cmn a b) = true := by
  rw [validR_iff] at *; rw [inR_iff] at h1 h2; simp only [cmn]; omega
theorem ovl_iff {a b : Rect} (ha : validRect a = true) (hb : validRect b = true) : ovl a b = true ↔ ∃ y x, y < 80 ∧ x < 80 ∧ inR a y x = true ∧ inR b y x = true := by
  simp only [ovl, ha, hb, Bool.true_and]
  constructor
  · intro h
    obtain ⟨y, x, h1, h2, h3⟩ := valid_cell h
    exact ⟨y, x, h1, h2, inR_cmn.1 h3⟩
  · rintro ⟨y, x, _, _, h1, h2⟩; exact cmn_valid ha hb h1 h2
theorem valid_mem {xs : List Rect} (h : validRs xs = true) {r : Rect} (hr : r ∈ xs) : validRect r = true := by
  simp only [validRs, Bool.and_eq_true, List.all_eq_true] at h; exact h.2 r hr
theorem gb_bits_iff {rs : List Rect} {y x : Nat} (hy : y < 80) (hx : x < 80) : gb (bits rs) y x = true ↔ ∃ r ∈ rs, inR r y x = true := by
  rw [gb_bits' rs hy hx, List.any_eq_true]
theorem meetB_iff {a b : List Rect} (ha : validRs a = true) (hb : validRs b = true) : meetB a b = true ↔ ∃ y x, y < 80 ∧ x < 80 ∧ gb (bits a) y x = true ∧ gb (bits b) y x = true := by
  simp only [meetB, List.any_eq_true]
  constructor
  · rintro ⟨p, hp, q, hq, h⟩
    obtain ⟨y, x, hy, hx, h1, h2⟩ := (ovl_iff (valid_mem ha hp) (valid_mem hb hq)).1 h
    exact ⟨y, x, hy, hx, (gb_bits_iff hy hx).2 ⟨p, hp, h1⟩, (gb_bits_iff hy hx).2 ⟨q, hq, h2⟩⟩
  · rintro ⟨y, x, hy, hx, h1, h2⟩
    obtain ⟨p, hp, h3⟩ := (gb_bits_iff hy hx).1 h1
    obtain ⟨q, hq, h4⟩ := (gb_bits_iff hy hx).1 h2
    exact ⟨p, hp, q, hq, (ovl_iff (valid_mem ha hp) (valid_mem hb hq)).2 ⟨y, x, hy, hx, h3, h4⟩⟩
/-- three sets have a common cell -/
def mt (A B C : List Bool) : Bool := (List.range 6400).any fun n => gd A n && gd B n && gd C n
theorem mt_iff {A B C : List Bool} : mt A B C = true ↔ ∃ y x, y < 80 ∧ x < 80 ∧ gb A y x = true ∧ gb B y x = true ∧ gb C y x = true := by
  simp only [mt, List.any_eq_true, List.mem_range, Bool.and_eq_true, gb]
  constructor
  · rintro ⟨n, hn, ⟨h1, h2⟩, h3⟩
    have e : n / 80 * 80 + n % 80 = n := by omega
    exact ⟨n / 80, n % 80, by omega, by omega, by rw [e]; exact h1, by rw [e]; exact h2, by rw [e]; exact h3⟩
  · rintro ⟨y, x, hy, hx, h1, h2, h3⟩
    exact ⟨y * 80 + x, by omega, ⟨h1, h2⟩, h3⟩
theorem meetIn_iff {a b c : List Rect} (ha : validRs a = true) (hb : validRs b = true) (hc : validRs c = true) : meetIn a b c = mt (bits a) (bits b) (bits c) := by
  rw [Bool.eq_iff_iff, mt_iff]
  simp only [meetIn, List.any_eq_true, Bool.and_eq_true]
  constructor
  · rintro ⟨p, hp, q, hq, h, h'⟩
    have h1 : validRs [cmn p q] = true := by simp [validRs, h]
    obtain ⟨y, x, hy, hx, h2, h3⟩ := (meetB_iff h1 hc).1 h'
    obtain ⟨r, hr, h4⟩ := (gb_bits_iff hy hx).1 h2
    obtain rfl : r = cmn p q := by simpa using hr
    obtain ⟨h5, h6⟩ := inR_cmn.1 h4
    exact ⟨y, x, hy, hx, (gb_bits_iff hy hx).2 ⟨p, hp, h5⟩, (gb_bits_iff hy hx).2 ⟨q, hq, h6⟩, h3⟩
  · rintro ⟨y, x, hy, hx, h1, h2, h3⟩
    obtain ⟨p, hp, h4⟩ := (gb_bits_iff hy hx).1 h1
    obtain ⟨q, hq, h5⟩ := (gb_bits_iff hy hx).1 h2
    have h := cmn_valid (valid_mem ha hp) (valid_mem hb hq) h4 h5
    have h6 : validRs [cmn p q] = true := by simp [validRs, h]
    exact ⟨p, hp, q, hq, h, (meetB_iff h6 hc).2 ⟨y, x, hy, hx, (gb_bits_iff hy hx).2 ⟨_, .head _, inR_cmn.2 ⟨h4, h5⟩⟩, h3⟩⟩
/-! ## joined pieces -/
def jnO (l : List (List Rect)) (p q : Int × List Rect) : Bool := bif decide (q.1 = 3) && decide (p.1 < 3) then meetIn p.2 q.2 (gd l 2) else decide (p.1 = 3) && decide (q.1 = 5) && meetIn p.2 q.2 (gd l 4)
def jnI (l : List (List Rect)) (p q : Int × List Rect) : Bool := bif decide (q.1 < p.1) then jnO l q p else jnO l p q
def jnR (p q : Int × List Bool) (C V : List Bool) : Bool := (List.range 6400).any fun n => gd p.2 n && gd q.2 n && (gd C n && (decide (p.1 = 3) || decide (q.1 = 3)) && !(decide (p.1 = 5) || decide (q.1 = 5)) || gd V n && (decide (p.1 = 3) || decide (q.1 = 3)) && (decide (p.1 = 5) || decide (q.1 = 5)))
theorem jnR_eq (p q : Int × List Bool) (C V : List Bool) : jnR p q C V = ((decide (p.1 = 3) || decide (q.1 = 3)) && !(decide (p.1 = 5) || decide (q.1 = 5)) && mt p.2 q.2 C || (decide (p.1 = 3) || decide (q.1 = 3)) && (decide (p.1 = 5) || decide (q.1 = 5)) && mt p.2 q.2 V) := by
  simp only [jnR, mt]
  cases (decide (p.1 = 3) || decide (q.1 = 3)) <;> cases (decide (p.1 = 5) || decide (q.1 = 5)) <;> simp
def isL (n : Int) : Prop := n = 0 ∨ n = 1 ∨ n = 3 ∨ n = 5
theorem mt_comm (A B C : List Bool) : mt A B C = mt B A C := by
  simp only [mt]; congr 1; funext n; cases gd A n <;> cases gd B n <;> rfl
/-- joined, told by cells -/
def jnL (l : List (List Rect)) (p q : Int × List Bool) : Bool := !decide (p.1 = q.1) && jnR p q (bits (gd l 2)) (bits (gd l 4))
theorem jn_eq {l : List (List Rect)} (hl : isLay l = true) {p q : Int × List Bool} (hp : isL p.1) (hq : isL q.1) (hp2 : p.2.length = 6400) (hq2 : q.2.length = 6400) : jnI l (pcR p) (pcR q) = jnL l p q := by
  have h2 := isReg_valid (isLay_reg hl (i := 2) (by omega))
  have h4 := isReg_valid (isLay_reg hl (i := 4) (by omega))
  have hP := isReg_valid (isReg_canon hp2)
  have hQ := isReg_valid (isReg_canon hq2)
  have a1 := meetIn_iff hP hQ h2; have a2 := meetIn_iff hP hQ h4; have a3 := meetIn_iff hQ hP h2; have a4 := meetIn_iff hQ hP h4
  rw [bits_canon hp2, bits_canon hq2] at a1 a2 a3 a4
  rw [mt_comm] at a3 a4
  simp only [jnL, jnR_eq, jnI, jnO, pcR, a1, a2, a3, a4]
  obtain ⟨x, P⟩ := p; obtain ⟨y, Q⟩ := q
  simp only at hp hq ⊢
  rcases hp with rfl | rfl | rfl | rfl <;> rcases hq with rfl | rfl | rfl | rfl <;> simp
theorem isL_lay {i : Nat} (h : i < 4) : isL (gd [0, 1, 3, 5] i) := by
  rcases (by omega : i = 0 ∨ i = 1 ∨ i = 2 ∨ i = 3) with rfl | rfl | rfl | rfl <;> simp [isL, gd]
theorem pcL_isL {l : List (List Rect)} {p : Int × List Bool} (h : p ∈ pcL l 4) : isL p.1 := by
  obtain ⟨m, h1, h2⟩ := List.mem_flatten.1 h
  obtain ⟨i, hi, rfl⟩ := List.mem_map.1 h1
  obtain ⟨c, hc, rfl⟩ := List.mem_map.1 h2
  exact isL_lay (List.mem_range.1 hi)
/-! ## classes -/
def rl (lo hi c : Int) : Int := if c = hi then lo else c
def stepJ (J : Nat → Nat → Bool) (i : Nat) (cls : List Int) (k : Nat) : List Int := if gd cls k = gd cls i ∨ J k i = false then cls else cls.map (rl (min (gd cls k) (gd cls i)) (max (gd cls k) (gd cls i)))
def inJ (J : Nat → Nat → Bool) (i : Nat) (cls : List Int) (k : Nat) : List Int := (List.range k).foldl (stepJ J i) (cls ++ [(i : Int)])
def rootsJ (J : Nat → Nat → Bool) : Nat → List Int
  | 0 => []
  | i + 1 => inJ J i (rootsJ J i) i
theorem inJ_zero (J : Nat → Nat → Bool) (i : Nat) (cls : List Int) : inJ J i cls 0 = cls ++ [(i : Int)] := rfl
theorem inJ_succ (J : Nat → Nat → Bool) (i : Nat) (cls : List Int) (k : Nat) : inJ J i cls (k + 1) = stepJ J i (inJ J i cls k) k := by simp [inJ, List.range_succ]
theorem stepJ_len (J : Nat → Nat → Bool) (i : Nat) (cls : List Int) (k : Nat) : (stepJ J i cls k).length = cls.length := by
  unfold stepJ; split <;> simp
theorem inJ_len (J : Nat → Nat → Bool) (i : Nat) (cls : List Int) : ∀ k, (inJ J i cls k).length = cls.length + 1
  | 0 => by simp [inJ_zero]
  | k + 1 => by rw [inJ_succ, stepJ_len, inJ_len J i cls k]
theorem rootsJ_len (J : Nat → Nat → Bool) : ∀ n, (rootsJ J n).length = n
  | 0 => rfl
  | n + 1 => by rw [rootsJ, inJ_len, rootsJ_len J n]
/-- each class is told by its first member -/
def Rt (cls : List Int) : Prop := ∀ j, j < cls.length → 0 ≤ gd cls j ∧ gd cls j ≤ j ∧ gd cls (gd cls j).toNat = gd cls j
theorem Rt.app {cls : List Int} (h : Rt cls) : Rt (cls ++ [(cls.length : Int)]) := fun j hj => by
  have hj : j < cls.length + 1 := by simpa using hj
  by_cases e : j = cls.length
  · subst e
    rw [gd_app_r]; refine ⟨by omega, by omega, ?_⟩
    rw [Int.toNat_natCast, gd_app_r]
  · have hj : j < cls.length := by omega
    obtain ⟨h1, h2, h3⟩ := h j hj
    rw [gd_app_l hj]
    exact ⟨h1, h2, by rw [gd_app_l (by omega)]; exact h3⟩
theorem Rt.map {cls : List Int} (h : Rt cls) {lo hi : Int} (hl : lo < hi) {k : Nat} (hk : k < cls.length) (hlo : gd cls k = lo) : Rt (cls.map (rl lo hi)) := fun j hj => by
  have hj : j < cls.length := by simpa using hj
  obtain ⟨h1, h2, h3⟩ := h j hj
  obtain ⟨g1, g2, g3⟩ := h k hk
  rw [gd_map _ hj]
  unfold rl
  split
  · rename_i e
    refine ⟨by omega, by omega, ?_⟩
    rw [gd_map _ (by omega), hlo] at *
    rw [g3, if_neg (by omega)]
  · rename_i e
    refine ⟨h1, h2, ?_⟩
    rw [gd_map _ (by omega), h3, if_neg e]
theorem Rt.step {cls : List Int} (h : Rt cls) {J : Nat → Nat → Bool} {i k : Nat} (hi : i < cls.length) (hk : k < cls.length) : Rt (stepJ J i cls k) := by
  unfold stepJ
  split
  · exact h
  · rename_i e
    rw [not_or] at e
    by_cases c : gd cls k < gd cls i
    · exact h.map (by omega) hk (by omega)
    · exact h.map (k := i) (by omega) hi (by omega)
theorem Rt.inJ {J : Nat → Nat → Bool} {cls : List Int} (h : Rt cls) : ∀ k, k ≤ cls.length → Rt (inJ J cls.length cls k)
  | 0, _ => by rw [inJ_zero]; exact h.app
  | k + 1, hk => by
    rw [inJ_succ]
    exact (Rt.inJ h k (by omega)).step (by rw [inJ_len]; omega) (by rw [inJ_len]; omega)
theorem rt_roots (J : Nat → Nat → Bool) : ∀ n, Rt (rootsJ J n)
  | 0 => fun j hj => by simp [rootsJ] at hj
  | n + 1 => by
    have := (rt_roots J n).inJ (J := J) n (by rw [rootsJ_len]; omega)
    rw [rootsJ_len] at this; exact this
/-! ## a list changed from its front -/
def mapTo (f : Int → Int) (d : List Int) (m : Nat) : List Int := (d.take m).map f ++ d.drop m
theorem mapTo_zero (f : Int → Int) (d : List Int) : mapTo f d 0 = d := by simp [mapTo]
theorem mapTo_len (f : Int → Int) (d : List Int) {m : Nat} (h : m ≤ d.length) : (mapTo f d m).length = d.length := by simp [mapTo]; omega
theorem mapTo_gd {f : Int → Int} {d : List Int} {m : Nat} (h : m < d.length) : gd (mapTo f d m) m = gd d m := by
  simp only [gd, mapTo]
  rw [List.getElem?_append_right (by simp; omega)]
  simp only [List.length_map, List.length_take, List.getElem?_drop]
  congr 2; omega
theorem mapTo_set {f : Int → Int} {d : List Int} {m : Nat} (h : m < d.length) : (mapTo f d m).set m (f (gd d m)) = mapTo f d (m + 1) := by
  have hl : ((d.take m).map f).length = m := by simp; omega
  simp only [mapTo]
  rw [List.set_append_right _ _ (by omega), hl, Nat.sub_self, drop_gd h, List.set_cons_zero, List.take_add_one, getG h]
  simp
theorem mapTo_skip {f : Int → Int} {d : List Int} {m : Nat} (h : m < d.length) (e : f (gd d m) = gd d m) : mapTo f d (m + 1) = mapTo f d m := by
  rw [← mapTo_set h, e, ← mapTo_gd (f := f) h]
  exact (set_self (by rw [mapTo_len f d (by omega)]; exact h)).symm
theorem mapTo_all {f : Int → Int} {c z : List Int} : mapTo f (c ++ z) c.length = c.map f ++ z := by simp [mapTo]
/-! ## numbers -/
def cntR (cls : List Int) (m : Nat) : Nat := ((List.range m).filter fun j => decide (gd cls j = (j : Int))).length
def numR (cls : List Int) (i : Nat) : Nat := cntR cls (gd cls i).toNat
theorem cntR_zero (cls : List Int) : cntR cls 0 = 0 := rfl
theorem cntR_succ (cls : List Int) (m : Nat) : cntR cls (m + 1) = cntR cls m + if gd cls m = (m : Int) then 1 else 0 := by
  unfold cntR
  rw [List.range_succ, List.filter_append, List.length_append]
  congr 1
  split <;> simp [*]
theorem cntR_mono (cls : List Int) {m : Nat} : ∀ {n : Nat}, m ≤ n → cntR cls m ≤ cntR cls n
  | 0, h => by obtain rfl : m = 0 := by omega
               exact Nat.le_refl _
  | n + 1, h => by
    by_cases e : m = n + 1
    · rw [e]; exact Nat.le_refl _
    · have := cntR_mono cls (m := m) (n := n) (by omega)
      rw [cntR_succ]; omega
theorem cntR_le (cls : List Int) (m : Nat) : cntR cls m ≤ m := by
  have := List.length_filter_le (fun j => decide (gd cls j = (j : Int))) (List.range m)
  simpa [cntR] using this
theorem numR_root {cls : List Int} {i : Nat} (h : gd cls i = (i : Int)) : numR cls i = cntR cls i := by rw [numR, h, Int.toNat_natCast]
theorem numR_at {cls : List Int} (h : Rt cls) {i : Nat} (hi : i < cls.length) : numR cls (gd cls i).toNat = numR cls i := by
  rw [numR, (h i hi).2.2, numR]
theorem numR_lt {cls : List Int} (h : Rt cls) {i m : Nat} (hi : i < cls.length) (hm : i < m) : numR cls i < cntR cls m := by
  obtain ⟨h1, h2, h3⟩ := h i hi
  have h4 := cntR_mono cls (m := (gd cls i).toNat + 1) (n := m) (by omega)
  rw [cntR_succ, if_pos (by rw [h3]; omega)] at h4
  rw [numR]; omega
/-- the lists of a partition by numbers, as far as the first i members go -/
def netsP {α : Type} [Inhabited α] (cls : List Int) (xs : List α) (i : Nat) : List (List α) := (List.range (cntR cls i)).map fun k => ((List.range i).filter fun j => decide (numR cls j = k)).map (gd xs)
theorem netsP_len {α : Type} [Inhabited α] (cls : List Int) (xs : List α) (i : Nat) : (netsP cls xs i).length = cntR cls i := by simp [netsP]
theorem netsP_gd {α : Type} [Inhabited α] {cls : List Int} {xs : List α} {i k : Nat} (h : k < cntR cls i) : gd (netsP cls xs i) k = ((List.range i).filter fun j => decide (numR cls j = k)).map (gd xs) := by
  rw [netsP, gd_map _ (by simpa using h)]
  simp [gd, h]
/-- the lists with room for the list of member i -/
def netsE {α : Type} [Inhabited α] (cls : List Int) (xs : List α) (i : Nat) : List (List α) := if gd cls i = (i : Int) then netsP cls xs i ++ [[]] else netsP cls xs i
theorem netsE_len {α : Type} [Inhabited α] (cls : List Int) (xs : List α) (i : Nat) : (netsE cls xs i).length = cntR cls (i + 1) := by
  unfold netsE; rw [cntR_succ]; split <;> simp [netsP_len, *]
theorem numR_ge {cls : List Int} (h : Rt cls) {i j : Nat} (hi : i < cls.length) (hj : j < i) (hr : gd cls i = (i : Int)) : numR cls j ≠ cntR cls i := by
  have := numR_lt h (i := j) (m := i) (by omega) hj; omega
theorem netsE_gd {α : Type} [Inhabited α] {cls : List Int} (h : Rt cls) {xs : List α} {i k : Nat} (hi : i < cls.length) (hk : k < cntR cls (i + 1)) : gd (netsE cls xs i) k = ((List.range i).filter fun j => decide (numR cls j = k)).map (gd xs) := by
  unfold netsE
  rw [cntR_succ] at hk
  split
  · rename_i e
    rw [if_pos e] at hk
    by_cases c : k < cntR cls i
    · rw [gd_app_l (by rw [netsP_len]; exact c), netsP_gd c]
    · obtain rfl : k = cntR cls i := by omega
      have e1 := gd_app_r (xs := netsP cls xs i) (a := ([] : List α))
      rw [netsP_len] at e1
      rw [e1, List.filter_eq_nil_iff.2, List.map_nil]
      intro j hj
      have := numR_ge h hi (List.mem_range.1 hj) e
      simpa using this
  · rename_i e
    rw [if_neg e] at hk
    exact netsP_gd (by omega)
theorem netsP_succ {α : Type} [Inhabited α] {cls : List Int} (h : Rt cls) {xs : List α} {i : Nat} (hi : i < cls.length) : netsP cls xs (i + 1) = (netsE cls xs i).set (numR cls i) (gd (netsE cls xs i) (numR cls i) ++ [gd xs i]) := by
  have hn := numR_lt h hi (Nat.lt_succ_self i)
  apply List.ext_getElem?
  intro k
  by_cases hk : k < cntR cls (i + 1)
  · rw [getG (by rw [netsP_len]; exact hk), netsP_gd hk, List.getElem?_set]
    by_cases c : numR cls i = k
    · subst c
      rw [if_pos rfl, if_pos (by rw [netsE_len]; exact hk), netsE_gd h hi hk, List.range_succ, List.filter_append, List.map_append]
      simp
    · rw [if_neg c, getG (by rw [netsE_len]; exact hk), netsE_gd h hi hk, List.range_succ, List.filter_append, List.map_append]
      simp [c]
  · rw [List.getElem?_eq_none (by rw [netsP_len]; omega), List.getElem?_eq_none (by rw [List.length_set, netsE_len]; omega)]
theorem filter_or_perm {α : Type} {p q : α → Bool} : ∀ {l : List α}, (∀ x ∈ l, ¬ (p x = true ∧ q x = true)) → (l.filter p ++ l.filter q).Perm (l.filter fun x => p x || q x)
  | [], _ => .refl _
  | x :: l, h => by
    have ih := filter_or_perm (l := l) fun y hy => h y (.tail _ hy)
    have hx := h x (.head _)
    cases hp : p x <;> cases hq : q x
    · simpa [hp, hq] using ih
    · simp only [List.filter_cons, hp, hq]
      simp only [Bool.or_true, if_true, Bool.false_eq_true, if_false]
      exact (List.perm_middle).trans (.cons _ ih)
    · simpa [hp, hq] using ih
    · exact absurd ⟨hp, hq⟩ hx
theorem parts_perm (f : Nat → Nat) (l : List Nat) : ∀ c, ((List.range c).flatMap fun k => l.filter fun j => decide (f j = k)).Perm (l.filter fun j => decide (f j < c))
  | 0 => by simp
  | c + 1 => by
    rw [List.range_succ, List.flatMap_append]
    simp only [List.flatMap_cons, List.flatMap_nil, List.append_nil]
    refine ((parts_perm f l c).append_right _).trans ((filter_or_perm fun x _ h => by simp at h; omega).trans ?_)
    refine .of_eq (List.filter_congr fun x _ => ?_)
    rw [Bool.eq_iff_iff]; simp; omega
/-- the lists of a partition, one after the other, are a permutation of the members -/
theorem netsP_perm {α : Type} [Inhabited α] {cls : List Int} (h : Rt cls) (xs : List α) (hl : cls.length = xs.length) : (netsP cls xs xs.length).flatten.Perm xs := by
  have e : (netsP cls xs xs.length).flatten = (((List.range (cntR cls xs.length)).flatMap fun k => (List.range xs.length).filter fun j => decide (numR cls j = k)).map (gd xs)) := by
    rw [netsP, ← List.flatMap_def, List.map_flatMap]
  rw [e]
  refine ((parts_perm (numR cls) (List.range xs.length) (cntR cls xs.length)).map (gd xs)).trans ?_
  refine .of_eq ?_
  rw [List.filter_eq_self.2 fun j hj => ?_]
  · apply List.ext_getElem?
    intro j
    by_cases hj : j < xs.length
    · rw [getG hj]; simp [hj]
    · rw [List.getElem?_eq_none (by simp; omega), List.getElem?_eq_none (by omega)]
  · have hj := List.mem_range.1 hj
    simpa using numR_lt h (by omega) hj
theorem netsP_map {α β : Type} [Inhabited α] [Inhabited β] (f : α → β) (cls : List Int) (xs : List α) {i : Nat} (hi : i ≤ xs.length) : netsP cls (xs.map f) i = (netsP cls xs i).map (List.map f) := by
  simp only [netsP, List.map_map]
  apply List.map_congr_left
  intro k _
  simp only [Function.comp_apply, List.map_map]
  apply List.map_congr_left
  intro j hj
  have := List.mem_range.1 (List.mem_filter.1 hj).1
  simp only [Function.comp_apply]
  exact gd_map _ (by omega)
/-! ## the nets of a layout -/
noncomputable def JL (l : List (List Rect)) (k i : Nat) : Bool := jnL l (gd (pcL l 4) k) (gd (pcL l 4) i)
noncomputable def clsL (l : List (List Rect)) : List Int := rootsJ (JL l) (pcL l 4).length
theorem clsL_len (l : List (List Rect)) : (clsL l).length = (pcL l 4).length := rootsJ_len _ _
theorem clsL_rt (l : List (List Rect)) : Rt (clsL l) := rt_roots _ _
noncomputable def netN (l : List (List Rect)) : Nat := cntR (clsL l) (pcL l 4).length
noncomputable def netL (l : List (List Rect)) : List (List (Int × List Rect)) := netsP (clsL l) ((pcL l 4).map pcR) (pcL l 4).length
theorem netL_len (l : List (List Rect)) : (netL l).length = netN l := netsP_len _ _ _
end Go.Proofs.YthjaopefoiploaaGreat
