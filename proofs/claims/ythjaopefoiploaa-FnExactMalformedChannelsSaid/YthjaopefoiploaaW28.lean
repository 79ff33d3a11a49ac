/-
  Contracts: kinds, sizes and numbers of channels; the laws of them.
-/
import Derived.Test.YthjaopefoiploaaW26
import Derived.Test.YthjaopefoiploaaW27
namespace Go.Proofs.Ythjaopefoiploaa
open Go
set_option maxRecDepth 20000
set_option linter.unusedSimpArgs false
variable {G : Gh} {L : List Ch} {R : Value → Gh → List Ch → Prop}
/-! ## the reference -/
theorem partsC_len (l : List (List Rect)) : (partsC l).length ≤ 6400 := by
  rw [partsC, partsL_len]; exact firsts_len _ _
theorem partsC_at {l : List (List Rect)} {ys : List (Sl Rect)} (h : er ys = partsC l) : ys.length ≤ 6400 ∧ ∀ i, i < ys.length → i < (partsC l).length ∧ gd (partsC l) i = (gd ys i).xs ∧ 0 < (gd ys i).xs.length ∧ isReg (gd ys i).xs = true := by
  have hl : ys.length = (partsC l).length := by rw [← h, er_len]
  refine ⟨by have := partsC_len l; omega, fun i hi => ?_⟩
  have e : gd (partsC l) i = (gd ys i).xs := by rw [← h, er_gd]
  have := partsC_ne (l := l) (g := (gd ys i).xs) (by rw [← e]; exact gd_mem (by omega))
  exact ⟨by omega, e, this⟩
theorem hasK_some {l : List (List Rect)} {box : Rect} {g : List Rect} (h : (partsC l).find? (hasG box) = some g) : hasK l box = (chK l g, chW l g) := by
  unfold hasK chW; rw [h]
theorem hasK_none {l : List (List Rect)} {box : Rect} (h : (partsC l).find? (hasG box) = none) : hasK l box = (-1, 0) := by
  unfold hasK; rw [h]
noncomputable def kindE (l : List (List Rect)) (box : Rect) : Int := bif isLay l then (hasK l box).1 else -1
def sizeR (r : Rect) (flow : Int) : Int × Int := if flow = 1 then (r.y1 - r.y0, r.x1 - r.x0) else (r.x1 - r.x0, r.y1 - r.y0)
noncomputable def sizeE (l : List (List Rect)) (box : Rect) : Int × Int := bif isLay l then (if (hasK l box).1 < 0 then (0, 0) else sizeR box (hasK l box).2) else (0, 0)
theorem hasK_valid {l : List (List Rect)} {box : Rect} (h : ¬ (hasK l box).1 < 0) : validRect box = true := by
  unfold hasK at h
  cases h1 : (partsC l).find? (hasG box) with
  | none => rw [h1] at h; simp at h
  | some g =>
    obtain ⟨i, hi, e, hp⟩ := find_some_gd h1
    simp only [hasG, Bool.and_eq_true, decide_eq_true_eq] at hp
    have hg := partsC_ne (l := l) (g := g) (by rw [e]; exact gd_mem hi)
    rw [← hp.2]; exact valid_first hg.1 hg.2
/-! ## the program -/
noncomputable def chanE (l : List (List Rect)) (box : Rect) : Option Chan := bif isLay l then chanW l box else none
theorem kindE_eq (l : List (List Rect)) (box : Rect) : kindE l box = match chanE l box with
    | some c => c.kind
    | none => -1 := by
  rw [kindE, chanE]
  cases isLay l
  · rfl
  · simp only [cond_true]; rw [hasK_eq]; cases chanW l box <;> rfl
theorem chans_mem {l : List (List Rect)} {c : Chan} (h : c ∈ chans l) : ∃ g, g ∈ partsC l ∧ isCh l g = true ∧ c = mkCh l g := by
  obtain ⟨g, hg, rfl⟩ := List.mem_map.1 h
  exact ⟨g, (List.mem_filter.1 hg).1, (List.mem_filter.1 hg).2, rfl⟩
theorem chans_len (l : List (List Rect)) : (chans l).length ≤ 6400 := by
  rw [chans, List.length_map]
  have := List.length_filter_le (isCh l) (partsC l)
  have := partsC_len l; omega
theorem chan_valid {l : List (List Rect)} {c : Chan} (h : c ∈ chans l) : validRect c.box = true ∧ 0 ≤ c.kind := by
  obtain ⟨g, hg, hi, rfl⟩ := chans_mem h
  have := partsC_ne hg
  exact ⟨valid_first this.1 this.2, of_decide_eq_true hi⟩
def sizeC (c : Chan) : Int × Int := bif c.hor then (c.box.y1 - c.box.y0, c.box.x1 - c.box.x0) else (c.box.x1 - c.box.x0, c.box.y1 - c.box.y0)
theorem sizeE_eq (l : List (List Rect)) (box : Rect) : sizeE l box = match chanE l box with
    | some c => sizeC c
    | none => (0, 0) := by
  rw [sizeE, chanE]
  cases isLay l
  · rfl
  · simp only [cond_true]
    rw [hasK_eq]
    cases h : chanW l box with
    | none => simp
    | some c =>
      obtain ⟨i, hi, e, hp⟩ := find_some_gd (xs := chans l) h
      have hc := chan_valid (l := l) (c := c) (by rw [e]; exact gd_mem hi)
      have hb : c.box = box := of_decide_eq_true hp
      simp only
      rw [if_neg (by omega), ← hb, sizeR, sizeC]
      cases c.hor <;> simp
theorem idx_find {α : Type} [Inhabited α] (p : α → Bool) (xs : List α) : (idxI p xs < 0 ∧ xs.find? p = none) ∨ (∃ i, i < xs.length ∧ idxI p xs = (i : Int) ∧ xs.find? p = some (gd xs i)) := by
  unfold idxI
  cases h : xs.findIdx? p with
  | none =>
    left
    refine ⟨by simp, ?_⟩
    rw [List.find?_eq_none]
    intro x hx
    simpa using List.findIdx?_eq_none_iff.1 h x hx
  | some i =>
    right
    obtain ⟨hi, hp, hj⟩ := List.findIdx?_eq_some_iff_getElem.1 h
    refine ⟨i, hi, rfl, find_gd hi (by rw [gd_eq hi]; exact hp) fun j hji => ?_⟩
    have := hj j hji
    rw [gd_eq (by omega)]; simpa using this
def optC : Option Chan → Chan
  | some c => c
  | none => default
theorem chanT_def : chanT.enc default = [vi 0, vi 0, vi 0, vi 0, vi 0, .bool false] := rfl
end Go.Proofs.Ythjaopefoiploaa
