/-
  Plain: cells counted along edges and in boxes; channels.
-/
import Derived.Test.YthjaopefoiploaaGreatNets2
namespace Go.Proofs.YthjaopefoiploaaGreat
open Go
set_option linter.unusedSimpArgs false
set_option maxRecDepth 20000
/-! ## counting -/
def one (b : Bool) : Int := bif b then 1 else 0
theorem one_and (a b : Bool) : one (a && b) = one a * one b := by cases a <;> cases b <;> rfl
theorem one_nn (b : Bool) : 0 ≤ one b ∧ one b ≤ 1 := by cases b <;> simp [one]
def sumF (f : Nat → Int) : Nat → Int
  | 0 => 0
  | n + 1 => sumF f n + f n
def cntF (f : Nat → Bool) (n : Nat) : Int := sumF (fun k => one (f k)) n
theorem cntF_succ (f : Nat → Bool) (n : Nat) : cntF f (n + 1) = cntF f n + one (f n) := rfl
theorem cntF_bd (f : Nat → Bool) : ∀ n, 0 ≤ cntF f n ∧ cntF f n ≤ n
  | 0 => by simp [cntF, sumF]
  | n + 1 => by
    have := cntF_bd f n
    have := one_nn (f n)
    rw [cntF_succ]; omega
theorem sumF_congr {f g : Nat → Int} : ∀ {n : Nat}, (∀ k, k < n → f k = g k) → sumF f n = sumF g n
  | 0, _ => rfl
  | n + 1, h => by rw [sumF, sumF, sumF_congr fun k hk => h k (by omega), h n (by omega)]
theorem sumF_mul (f : Nat → Int) (c : Int) : ∀ n, sumF (fun k => f k * c) n = sumF f n * c
  | 0 => by simp [sumF]
  | n + 1 => by rw [sumF, sumF, sumF_mul f c n, Int.add_mul]
theorem sumF_bd {f : Nat → Int} {B : Int} (h : ∀ k, 0 ≤ f k ∧ f k ≤ B) : ∀ n, 0 ≤ sumF f n ∧ sumF f n ≤ n * B
  | 0 => by simp [sumF]
  | n + 1 => by
    have h1 := sumF_bd h n
    have h2 := h n
    rw [sumF, Int.natCast_add, Int.add_mul]; omega
/-- how many of the places b, b + 1, .. lie between a and c -/
theorem cntF_between (a b c : Int) : ∀ n, cntF (fun k => decide (a ≤ b + k) && decide (b + k < c)) n = max 0 (min c (b + n) - max a b)
  | 0 => by simp only [cntF, sumF]; omega
  | n + 1 => by
    rw [cntF_succ, cntF_between a b c n]
    by_cases h1 : a ≤ b + n <;> by_cases h2 : b + (n : Int) < c
    · rw [decide_eq_true h1, decide_eq_true h2]; simp only [one, Bool.and_self, cond_true]; omega
    · rw [decide_eq_true h1, decide_eq_false h2]; simp only [one, Bool.and_false, cond_false]; omega
    · rw [decide_eq_false h1, decide_eq_true h2]; simp only [one, Bool.false_and, cond_false]; omega
    · rw [decide_eq_false h1, decide_eq_false h2]; simp only [one, Bool.false_and, cond_false]; omega
theorem costL_add {α : Type} (f g : α → Int) : ∀ xs : List α, costL (fun x => f x + g x) xs = costL f xs + costL g xs
  | [] => by simp [costL]
  | x :: xs => by simp only [costL, costL_add f g xs]; omega
theorem costL_congr {α : Type} {f g : α → Int} : ∀ {xs : List α}, (∀ x ∈ xs, f x = g x) → costL f xs = costL g xs
  | [], _ => rfl
  | x :: xs, h => by rw [costL, costL, h x (.head _), costL_congr fun y hy => h y (.tail _ hy)]
theorem costL_zero {α : Type} (xs : List α) : costL (fun _ => 0) xs = 0 := by rw [costL_const]; simp
theorem sumF_costL {α : Type} (f : Nat → α → Int) (xs : List α) : ∀ n, sumF (fun k => costL (f k) xs) n = costL (fun x => sumF (fun k => f k x) n) xs
  | 0 => by simp [sumF, costL_zero]
  | n + 1 => by rw [sumF, sumF_costL f xs n, ← costL_add]; rfl
theorem one_any {α : Type} {p : α → Bool} : ∀ {xs : List α}, xs.Pairwise (fun a b => ¬ (p a = true ∧ p b = true)) → one (xs.any p) = costL (fun x => one (p x)) xs
  | [], _ => rfl
  | x :: xs, h => by
    rw [List.pairwise_cons] at h
    rw [List.any_cons, costL, ← one_any h.2]
    cases hp : p x
    · simp [one]
    · have : xs.any p = false := by
        rw [List.any_eq_false]; intro y hy hq; exact h.1 y hy ⟨hp, hq⟩
      rw [this]; rfl
/-! ## the rectangles of a region share no cell -/
theorem runs_ge (r : Nat → Bool) (x : Nat) : ∀ p ∈ runsFrom r x, x ≤ p.1 := by
  intro p hp
  rw [runsFrom] at hp
  by_cases h : x < 80
  · rw [if_pos h] at hp
    by_cases hr : r x = true
    · rw [if_pos hr] at hp
      have h1 := runEnd_ge r (x + 1)
      rcases List.mem_cons.1 hp with rfl | hp
      · exact Nat.le_refl _
      · have := runs_ge r _ p hp; omega
    · rw [if_neg hr] at hp; have := runs_ge r _ p hp; omega
  · rw [if_neg h] at hp; cases hp
termination_by 80 - x
decreasing_by
  · have := runEnd_ge r (x + 1); omega
  · omega
theorem runs_apart (r : Nat → Bool) (x : Nat) : (runsFrom r x).Pairwise fun p q => p.2 ≤ q.1 := by
  rw [runsFrom]
  split
  · split
    · rw [List.pairwise_cons]
      have h1 := runEnd_ge r (x + 1)
      refine ⟨fun q hq => ?_, runs_apart r _⟩
      have := runs_ge r _ q hq; simp only; omega
    · exact runs_apart r (x + 1)
  · exact .nil
termination_by 80 - x
decreasing_by
  · have := runEnd_ge r (x + 1); omega
  · omega
theorem canonFrom_ge (bs : List Bool) (y : Nat) : ∀ r ∈ canonFrom bs y, (y : Int) - 40 ≤ r.y0 := by
  intro r hr
  rw [canonFrom] at hr
  by_cases h : y < 80
  · rw [if_pos h] at hr
    have h1 := endFrom_ge bs y (y + 1)
    rcases List.mem_append.1 hr with hr | hr
    · obtain ⟨p, hp, rfl⟩ := List.mem_map.1 hr
      simp only [mkR]; omega
    · have := canonFrom_ge bs _ r hr; omega
  · rw [if_neg h] at hr; cases hr
termination_by 80 - y
decreasing_by have := endFrom_ge bs y (y + 1); omega
theorem canonFrom_apart (bs : List Bool) (y : Nat) : (canonFrom bs y).Pairwise fun r q => ∀ v u, ¬ (inR r v u = true ∧ inR q v u = true) := by
  rw [canonFrom]
  split
  · rename_i h
    have h1 := endFrom_ge bs y (y + 1)
    rw [List.pairwise_append]
    refine ⟨?_, canonFrom_apart bs _, fun r hr q hq v u => ?_⟩
    · rw [List.pairwise_map]
      refine (runs_apart (gb bs y) 0).imp ?_
      intro p q hpq v u ⟨h1, h2⟩
      rw [inR_iff] at h1 h2; simp only [mkR] at h1 h2; omega
    · obtain ⟨p, _, rfl⟩ := List.mem_map.1 hr
      have := canonFrom_ge bs _ q hq
      rintro ⟨h1, h2⟩
      rw [inR_iff] at h1 h2; simp only [mkR] at h1; omega
  · exact .nil
termination_by 80 - y
decreasing_by have := endFrom_ge bs y (y + 1); omega
theorem reg_apart {xs : List Rect} (h : isReg xs = true) (v u : Nat) : xs.Pairwise fun r q => ¬ (inR r v u = true ∧ inR q v u = true) := by
  have := canonFrom_apart (bits xs) 0
  rw [show canonFrom (bits xs) 0 = canon (bits xs) from rfl, isReg_eq h] at this
  exact this.imp fun k => k v u
/-! ## boxes -/
def wR (r : Rect) : Nat := (r.x1 - r.x0).toNat
def hR (r : Rect) : Nat := (r.y1 - r.y0).toNat
/-- cells of a row, of a column, of a box -/
def tH (D : List Bool) (y x0 : Int) (n : Nat) : Int := cntF (fun k => cellB D (x0 + k) y) n
def tV (D : List Bool) (x y0 : Int) (n : Nat) : Int := cntF (fun k => cellB D x (y0 + k)) n
def covB (S : List Bool) (r : Rect) : Int := sumF (fun j => tH S (r.y0 + j) r.x0 (wR r)) (hR r)
def covI (xs : List Rect) (r : Rect) : Int := costL (fun q => if validRect (cmn q r) = true then areaR (cmn q r) else 0) xs
theorem covB_nn (S : List Bool) (r : Rect) : 0 ≤ covB S r ∧ covB S r ≤ hR r * wR r := sumF_bd (fun _ => cntF_bd _ _) _
theorem box_count {q r : Rect} (hq : validRect q = true) (hr : validRect r = true) : sumF (fun j => cntF (fun k => (decide (q.x0 ≤ r.x0 + k) && decide (r.x0 + (k : Int) < q.x1)) && (decide (q.y0 ≤ r.y0 + j) && decide (r.y0 + (j : Int) < q.y1))) (wR r)) (hR r) = if validRect (cmn q r) = true then areaR (cmn q r) else 0 := by
  have e : ∀ j : Nat, cntF (fun k => (decide (q.x0 ≤ r.x0 + k) && decide (r.x0 + (k : Int) < q.x1)) && (decide (q.y0 ≤ r.y0 + j) && decide (r.y0 + (j : Int) < q.y1))) (wR r) = one (decide (q.y0 ≤ r.y0 + j) && decide (r.y0 + (j : Int) < q.y1)) * cntF (fun k => decide (q.x0 ≤ r.x0 + k) && decide (r.x0 + (k : Int) < q.x1)) (wR r) := fun j => by
    simp only [cntF, one_and]
    rw [← one_and (decide (q.y0 ≤ r.y0 + j)), Int.mul_comm, ← sumF_mul]
  rw [sumF_congr fun j _ => e j, sumF_mul]
  show cntF _ _ * _ = _
  rw [cntF_between, cntF_between]
  rw [validR_iff] at hq hr
  have h1 : (wR r : Int) = r.x1 - r.x0 := by simp only [wR]; omega
  have h2 : (hR r : Int) = r.y1 - r.y0 := by simp only [hR]; omega
  rw [h1, h2]
  by_cases c : validRect (cmn q r) = true
  · rw [if_pos c]
    rw [validR_iff] at c; simp only [cmn] at c
    simp only [areaR, cmn]
    rw [Int.mul_comm, show max 0 (min q.x1 (r.x0 + (r.x1 - r.x0)) - max q.x0 r.x0) = min q.x1 r.x1 - max q.x0 r.x0 by omega, show max 0 (min q.y1 (r.y0 + (r.y1 - r.y0)) - max q.y0 r.y0) = min q.y1 r.y1 - max q.y0 r.y0 by omega]
  · rw [if_neg c]
    rw [validR_iff] at c; simp only [cmn] at c
    by_cases d : min q.x1 r.x1 ≤ max q.x0 r.x0
    · rw [show max 0 (min q.x1 (r.x0 + (r.x1 - r.x0)) - max q.x0 r.x0) = 0 by omega, Int.mul_zero]
    · rw [show max 0 (min q.y1 (r.y0 + (r.y1 - r.y0)) - max q.y0 r.y0) = 0 by omega, Int.zero_mul]
/-- the areas of the parts of a region in a box add up to its cells in the box -/
theorem cov_eq {xs : List Rect} {r : Rect} (hx : isReg xs = true) (hr : validRect r = true) : covI xs r = covB (bits xs) r := by
  have hv := isReg_valid hx
  have hr2 := validR_iff.1 hr
  have e : ∀ j, j < hR r → tH (bits xs) (r.y0 + j) r.x0 (wR r) = costL (fun q => cntF (fun k => (decide (q.x0 ≤ r.x0 + k) && decide (r.x0 + (k : Int) < q.x1)) && (decide (q.y0 ≤ r.y0 + j) && decide (r.y0 + (j : Int) < q.y1))) (wR r)) xs := fun j hj => by
    simp only [tH, cntF]
    rw [← sumF_costL]
    refine sumF_congr fun k hk => ?_
    have hin : -40 ≤ r.x0 + (k : Int) ∧ r.x0 + (k : Int) < 40 ∧ -40 ≤ r.y0 + (j : Int) ∧ r.y0 + (j : Int) < 40 := by
      simp only [hR, wR] at hj hk; omega
    rw [cellB_in hin, gb_bits' _ (by omega) (by omega), one_any (reg_apart hx _ _)]
    refine costL_congr fun q hq => ?_
    congr 1
    rw [Bool.eq_iff_iff, inR_iff]
    simp only [Bool.and_eq_true, decide_eq_true_eq]
    omega
  rw [covB, sumF_congr e, sumF_costL, covI]
  exact costL_congr fun q hq => (box_count (valid_mem hv hq) hr).symm
/-! ## currents and kinds -/
def flowI (a b c d H W : Int) : Int := if a = H ∧ b = H ∧ c = 0 ∧ d = 0 then 1 else if a = 0 ∧ b = 0 ∧ c = W ∧ d = W then 2 else 0
def flowB (D : List Bool) (r : Rect) : Int := flowI (tV D (r.x0 - 1) r.y0 (hR r)) (tV D r.x1 r.y0 (hR r)) (tH D (r.y0 - 1) r.x0 (wR r)) (tH D r.y1 r.x0 (wR r)) (r.y1 - r.y0) (r.x1 - r.x0)
theorem flowI_level {a b c d H W : Int} (hH : 0 < H) (hW : 0 < W) (ha : 0 ≤ a ∧ a ≤ H) (hb : 0 ≤ b ∧ b ≤ H) (hc : 0 ≤ c ∧ c ≤ W) (hd : 0 ≤ d ∧ d ≤ W) :
    (decide (a + b = 2 * H) && decide (c + d = 0)) = decide (flowI a b c d H W = 1) ∧ (decide (c + d = 2 * W) && decide (a + b = 0)) = decide (flowI a b c d H W = 2) := by
  unfold flowI
  constructor
  · rw [Bool.eq_iff_iff]
    simp only [Bool.and_eq_true, decide_eq_true_eq]
    split
    · simp; omega
    · split <;> simp <;> omega
  · rw [Bool.eq_iff_iff]
    simp only [Bool.and_eq_true, decide_eq_true_eq]
    split
    · simp; omega
    · split <;> simp <;> omega
def difC (l : List (List Rect)) : List Bool := gd (condB l) 0
def regC (l : List (List Rect)) : List Bool := zipB (fun p q => p && q) (bits (gd l 0)) (bits (gd l 1))
noncomputable def partsC (l : List (List Rect)) : List (List Rect) := partsL (regC l)
def chF (l : List (List Rect)) (g : List Rect) : Int := if g.length = 1 then flowB (difC l) (gd g 0) else 0
def chK (l : List (List Rect)) (g : List Rect) : Int := if chF l g = 0 then -1 else if covB (bits (gd l 6)) (gd g 0) = 0 then 0 else if covB (bits (gd l 6)) (gd g 0) = areaR (gd g 0) then 1 else -1
def mkCh (l : List (List Rect)) (g : List Rect) : Chan := ⟨gd g 0, chK l g, decide (chF l g = 1)⟩
def isCh (l : List (List Rect)) (g : List Rect) : Bool := decide (0 ≤ chK l g)
noncomputable def chans (l : List (List Rect)) : List Chan := ((partsC l).filter (isCh l)).map (mkCh l)
noncomputable def malf (l : List (List Rect)) : List (List Rect) := (partsC l).filter fun g => !isCh l g
theorem regC_len (l : List (List Rect)) : (regC l).length = 6400 := zipB_len (bits_length _) (bits_length _)
theorem difC_len (l : List (List Rect)) : (difC l).length = 6400 := condB_len l (by omega)
theorem flow_bd (D : List Bool) (r : Rect) : 0 ≤ flowB D r ∧ flowB D r ≤ 2 := by unfold flowB flowI; split <;> (try split) <;> omega
theorem chK_bd (l : List (List Rect)) (g : List Rect) : -1 ≤ chK l g ∧ chK l g ≤ 1 := by unfold chK; split <;> (try split) <;> (try split) <;> omega
/-- the parts of the channel region: not empty, of valid rectangles, regions -/
theorem partsC_ne {l : List (List Rect)} {g : List Rect} (h : g ∈ partsC l) : 0 < g.length ∧ isReg g = true := by
  obtain ⟨i, hi, rfl⟩ := List.getElem_of_mem h
  have hi2 : i < (firsts (regC l) 6400).length := by rwa [partsC, partsL_len] at hi
  have e : (partsC l)[i] = canon (compB (regC l) (cel (gd (firsts (regC l) 6400) i))) := by
    rw [← gd_eq hi]; exact partsL_gd hi2
  rw [e]
  exact ⟨(canon_first (firsts_first hi2)).1, isReg_canon (compB_len _ _)⟩
theorem valid_first {g : List Rect} (h0 : 0 < g.length) (h : isReg g = true) : validRect (gd g 0) = true := valid_mem (isReg_valid h) (gd_mem' h0)
  where gd_mem' {g : List Rect} (h0 : 0 < g.length) : gd g 0 ∈ g := by rw [gd_eq h0]; exact List.getElem_mem h0
theorem areaR_pos {r : Rect} (h : validRect r = true) : 0 < areaR r := by
  rw [validR_iff] at h
  exact Int.mul_pos (by omega) (by omega)
/-- the program's two counts tell the current -/
theorem flow_level {D : List Bool} {r : Rect} (hr : validRect r = true) :
    (decide (tV D (r.x0 - 1) r.y0 (hR r) + tV D r.x1 r.y0 (hR r) = 2 * (r.y1 - r.y0)) && decide (tH D (r.y0 - 1) r.x0 (wR r) + tH D r.y1 r.x0 (wR r) = 0)) = decide (flowB D r = 1) ∧
    (decide (tH D (r.y0 - 1) r.x0 (wR r) + tH D r.y1 r.x0 (wR r) = 2 * (r.x1 - r.x0)) && decide (tV D (r.x0 - 1) r.y0 (hR r) + tV D r.x1 r.y0 (hR r) = 0)) = decide (flowB D r = 2) := by
  rw [validR_iff] at hr
  have h1 := cntF_bd (fun k => cellB D (r.x0 - 1) (r.y0 + k)) (hR r)
  have h2 := cntF_bd (fun k => cellB D r.x1 (r.y0 + k)) (hR r)
  have h3 := cntF_bd (fun k => cellB D (r.x0 + k) (r.y0 - 1)) (wR r)
  have h4 := cntF_bd (fun k => cellB D (r.x0 + k) r.y1) (wR r)
  have e1 : (wR r : Int) = r.x1 - r.x0 := by simp only [wR]; omega
  have e2 : (hR r : Int) = r.y1 - r.y0 := by simp only [hR]; omega
  rw [e2] at h1 h2; rw [e1] at h3 h4
  exact flowI_level (by omega) (by omega) h1 h2 h3 h4
/-- the program's test for a malformed part, and its kind -/
def covC (l : List (List Rect)) (g : List Rect) : Int := covB (bits (gd l 6)) (gd g 0)
def lvl (l : List (List Rect)) (g : List Rect) : Int := tV (difC l) ((gd g 0).x0 - 1) (gd g 0).y0 (hR (gd g 0)) + tV (difC l) (gd g 0).x1 (gd g 0).y0 (hR (gd g 0))
def upr (l : List (List Rect)) (g : List Rect) : Int := tH (difC l) ((gd g 0).y0 - 1) (gd g 0).x0 (wR (gd g 0)) + tH (difC l) (gd g 0).y1 (gd g 0).x0 (wR (gd g 0))
def horC (l : List (List Rect)) (g : List Rect) : Bool := decide (lvl l g = 2 * ((gd g 0).y1 - (gd g 0).y0)) && decide (upr l g = 0)
def verC (l : List (List Rect)) (g : List Rect) : Bool := decide (upr l g = 2 * ((gd g 0).x1 - (gd g 0).x0)) && decide (lvl l g = 0)
theorem horC_eq {l : List (List Rect)} {g : List Rect} (h0 : 0 < g.length) (hg : isReg g = true) : horC l g = decide (flowB (difC l) (gd g 0) = 1) := (flow_level (valid_first h0 hg)).1
theorem verC_eq {l : List (List Rect)} {g : List Rect} (h0 : 0 < g.length) (hg : isReg g = true) : verC l g = decide (flowB (difC l) (gd g 0) = 2) := (flow_level (valid_first h0 hg)).2
theorem chan_cond {l : List (List Rect)} {g : List Rect} (h0 : 0 < g.length) (hg : isReg g = true) :
    ((decide ((1 : Int) < (g.length : Int)) || (!horC l g && !verC l g)) || (!decide (covC l g = 0) && !decide (covC l g = areaR (gd g 0)))) = !isCh l g := by
  rw [horC_eq h0 hg, verC_eq h0 hg, isCh, chK, chF, covC]
  have hf := flow_bd (difC l) (gd g 0)
  have ha := areaR_pos (valid_first h0 hg)
  rw [Bool.eq_iff_iff]
  simp only [Bool.or_eq_true, Bool.and_eq_true, Bool.not_eq_true', decide_eq_true_eq, decide_eq_false_iff_not]
  generalize flowB (difC l) (gd g 0) = f at *
  generalize covB (bits (gd l 6)) (gd g 0) = c at *
  generalize areaR (gd g 0) = a at *
  by_cases h1 : g.length = 1
  · rw [if_pos h1]
    by_cases h2 : f = 0
    · rw [if_pos h2]; omega
    · rw [if_neg h2]
      by_cases h3 : c = 0
      · rw [if_pos h3]; omega
      · rw [if_neg h3]
        by_cases h4 : c = a
        · rw [if_pos h4]; omega
        · rw [if_neg h4]; omega
  · rw [if_neg h1, if_pos rfl]; omega
theorem chan_kind {l : List (List Rect)} {g : List Rect} (h0 : 0 < g.length) (hg : isReg g = true) (h : isCh l g = true) : g.length = 1 ∧ horC l g = decide (chF l g = 1) ∧ (if 0 < covC l g then (1 : Int) else 0) = chK l g ∧ 0 < chF l g := by
  rw [horC_eq h0 hg]
  have hf := flow_bd (difC l) (gd g 0)
  have hc := (covB_nn (bits (gd l 6)) (gd g 0)).1
  unfold isCh at h
  have h := of_decide_eq_true h
  unfold chK chF at *
  rw [covC]
  generalize flowB (difC l) (gd g 0) = f at *
  generalize covB (bits (gd l 6)) (gd g 0) = c at *
  generalize areaR (gd g 0) = a at *
  by_cases h1 : g.length = 1
  · rw [if_pos h1] at *
    by_cases h2 : f = 0
    · rw [if_pos h2] at h; omega
    · rw [if_neg h2] at *
      refine ⟨h1, rfl, ?_, by omega⟩
      by_cases h3 : c = 0
      · rw [if_pos h3, if_neg (by omega)]
      · rw [if_neg h3] at h
        by_cases h4 : c = a
        · rw [if_neg h3, if_pos h4, if_pos (by omega)]
        · rw [if_neg h4] at h; omega
  · rw [if_neg h1, if_pos rfl] at h; omega
/-! ## the channel with a rectangle -/
theorem partsL_apart {S : List Bool} {i j : Nat} (hi : i < (partsL S).length) (hj : j < (partsL S).length) (e : gd (gd (partsL S) i) 0 = gd (gd (partsL S) j) 0) : i = j := by
  have hp := List.pairwise_iff_getElem.1 (comps_apart S)
  have hc : ∀ i, i < (partsL S).length → i < (comps S).length := fun i h => by simpa [partsL] using h
  have hg : ∀ i (h : i < (partsL S).length), gd (partsL S) i = canon ((comps S)[i]'(hc i h)) := fun i h => by rw [partsL, gd_map _ (hc i h), gd_eq (hc i h)]
  have key : ∀ i (h : i < (partsL S).length), ∃ y x, y < 80 ∧ x < 80 ∧ inR (gd (gd (partsL S) i) 0) y x = true := fun i h => by
    have h2 : i < (firsts S 6400).length := by rwa [partsL_len] at h
    have h0 : 0 < (gd (partsL S) i).length := by rw [partsL_gd h2]; exact (canon_first (firsts_first h2)).1
    have hr : isReg (gd (partsL S) i) = true := by rw [partsL_gd h2]; exact isReg_canon (compB_len _ _)
    exact valid_cell (valid_first h0 hr)
  have cell : ∀ i (h : i < (partsL S).length) {y x : Nat}, y < 80 → x < 80 → inR (gd (gd (partsL S) i) 0) y x = true → gb ((comps S)[i]'(hc i h)) y x = true := fun i h y x hy hx k => by
    have h2 : i < (firsts S 6400).length := by rwa [partsL_len] at h
    have h0 : 0 < (gd (partsL S) i).length := by rw [partsL_gd h2]; exact (canon_first (firsts_first h2)).1
    have hl : ((comps S)[i]'(hc i h)).length = 6400 := comps_mem (List.getElem_mem _)
    rw [← bits_canon hl, gb_bits_iff hy hx, ← hg i h]
    exact ⟨_, by rw [gd_eq h0]; exact List.getElem_mem h0, k⟩
  obtain ⟨y, x, hy, hx, k⟩ := key i hi
  have k1 := cell i hi hy hx k
  rw [e] at k
  have k2 := cell j hj hy hx k
  rcases Nat.lt_trichotomy i j with c | c | c
  · exact (hp i j (hc i hi) (hc j hj) c y x hy hx k1 k2).elim
  · exact c
  · exact (hp j i (hc j hj) (hc i hi) c y x hy hx k2 k1).elim
def hasG (box : Rect) (g : List Rect) : Bool := decide (g.length = 1) && decide (gd g 0 = box)
/-- kind and current of the channel with a rectangle, or -1 and 0 -/
noncomputable def hasK (l : List (List Rect)) (box : Rect) : Int × Int :=
  match (partsC l).find? (hasG box) with
  | some g => (chK l g, if chK l g < 0 then 0 else chF l g)
  | none => (-1, 0)
noncomputable def chanW (l : List (List Rect)) (box : Rect) : Option Chan := (chans l).find? fun c => decide (c.box = box)
theorem find_filter_map {α β : Type} {p : α → Bool} {q : β → Bool} (f : α → β) : ∀ xs : List α, ((xs.filter p).map f).find? q = (xs.find? fun x => p x && q (f x)).map f
  | [] => rfl
  | x :: xs => by
    cases hp : p x
    · simp [hp, find_filter_map f xs]
    · cases hq : q (f x)
      · simp [hp, hq, find_filter_map f xs]
      · simp [hp, hq]
theorem find_gd {α : Type} [Inhabited α] {p : α → Bool} {xs : List α} {i : Nat} (hi : i < xs.length) (h : p (gd xs i) = true) (hj : ∀ j, j < i → p (gd xs j) = false) : xs.find? p = some (gd xs i) := by
  rw [List.find?_eq_some_iff_getElem]
  refine ⟨h, i, hi, (gd_eq hi).symm, fun j hji => ?_⟩
  have := hj j hji
  rw [gd_eq (by omega)] at this; simp [this]
theorem find_gd_none {α : Type} [Inhabited α] {p : α → Bool} {xs : List α} (h : ∀ j, j < xs.length → p (gd xs j) = false) : xs.find? p = none := by
  rw [List.find?_eq_none]
  intro x hx
  obtain ⟨j, hj, rfl⟩ := List.getElem_of_mem hx
  have := h j hj
  rw [gd_eq hj] at this; simp [this]
theorem find_some_gd {α : Type} [Inhabited α] {p : α → Bool} {xs : List α} {a : α} (h : xs.find? p = some a) : ∃ i, i < xs.length ∧ a = gd xs i ∧ p a = true := by
  obtain ⟨hp, i, hi, e, _⟩ := List.find?_eq_some_iff_getElem.1 h
  exact ⟨i, hi, by rw [gd_eq hi]; exact e.symm, hp⟩
/-- what the reference finds is what the program finds -/
theorem hasK_eq (l : List (List Rect)) (box : Rect) : hasK l box = match chanW l box with
    | some c => (c.kind, if c.hor then 1 else 2)
    | none => (-1, 0) := by
  unfold hasK chanW chans
  rw [find_filter_map]
  have len1 : ∀ g ∈ partsC l, isCh l g = true → g.length = 1 := fun g hg h => (chan_kind (partsC_ne hg).1 (partsC_ne hg).2 h).1
  cases h1 : (partsC l).find? (hasG box) with
  | none =>
    have : (partsC l).find? (fun x => isCh l x && decide ((mkCh l x).box = box)) = none := by
      rw [List.find?_eq_none] at h1 ⊢
      intro g hg h
      rw [Bool.and_eq_true] at h
      have h2 : gd g 0 = box := of_decide_eq_true h.2
      exact h1 g hg (by simp [hasG, len1 g hg h.1, h2])
    rw [this]; rfl
  | some g =>
    obtain ⟨i, hi, e, hp⟩ := find_some_gd h1
    have hgm : g ∈ partsC l := by rw [e, gd_eq hi]; exact List.getElem_mem hi
    simp only [hasG, Bool.and_eq_true, decide_eq_true_eq] at hp
    by_cases c : isCh l g = true
    · have hk := chan_kind (partsC_ne hgm).1 (partsC_ne hgm).2 c
      have : (partsC l).find? (fun x => isCh l x && decide ((mkCh l x).box = box)) = some g := by
        rw [e]
        refine find_gd hi (by rw [← e]; simp [c, mkCh, hp.2]) fun j hj => ?_
        cases hb : isCh l (gd (partsC l) j) && decide ((mkCh l (gd (partsC l) j)).box = box) with
        | false => rfl
        | true =>
          rw [Bool.and_eq_true] at hb
          have hb2 : gd (gd (partsC l) j) 0 = box := of_decide_eq_true hb.2
          have := partsL_apart (S := regC l) (i := j) (j := i) (by have : j < (partsC l).length := by omega
                                                                   exact this) hi (by
            show gd (gd (partsC l) j) 0 = gd (gd (partsC l) i) 0
            rw [hb2, ← e, hp.2])
          omega
      rw [this]
      have hk0 : 0 ≤ chK l g := of_decide_eq_true c
      simp only [Option.map_some, mkCh]
      rw [if_neg (by omega)]
      have hf := flow_bd (difC l) (gd g 0)
      have hf2 : chF l g = 1 ∨ chF l g = 2 := by
        have h4 := hk.2.2.2
        unfold chF at *
        rw [if_pos hk.1] at *; omega
      rcases hf2 with h5 | h5 <;> simp [h5]
    · have : (partsC l).find? (fun x => isCh l x && decide ((mkCh l x).box = box)) = none := by
        refine find_gd_none fun j hj => ?_
        cases hb : isCh l (gd (partsC l) j) && decide ((mkCh l (gd (partsC l) j)).box = box) with
        | false => rfl
        | true =>
          rw [Bool.and_eq_true] at hb
          have hb2 : gd (gd (partsC l) j) 0 = box := of_decide_eq_true hb.2
          have := partsL_apart (S := regC l) (i := j) (j := i) hj hi (by
            show gd (gd (partsC l) j) 0 = gd (gd (partsC l) i) 0
            rw [hb2, ← e, hp.2])
          subst this
          rw [← e] at hb; exact absurd hb.1 c
      rw [this]
      have hk : chK l g = -1 := by
        have := chK_bd l g
        simp [isCh] at c; omega
      simp [hk]
end Go.Proofs.YthjaopefoiploaaGreat
