/-
  Contracts: kinds, sizes and numbers of channels; the laws of them.
-/
import Derived.Test.YthjaopefoiploaaW28
import Derived.Test.YthjaopefoiploaaW13
namespace Go.Proofs.Ythjaopefoiploaa
open Go
set_option maxRecDepth 20000
set_option linter.unusedSimpArgs false
variable {G : Gh} {L : List Ch} {R : Value → Gh → List Ch → Prop}
theorem chanE_valid {l : List (List Rect)} {box : Rect} {c : Chan} (h : chanE l box = some c) : validRect c.box = true ∧ 0 ≤ c.kind ∧ c.box = box ∧ c ∈ chans l := by
  unfold chanE at h
  cases hl : isLay l
  · rw [hl] at h; cases h
  · rw [hl] at h
    obtain ⟨i, hi, e, hp⟩ := find_some_gd (xs := chans l) h
    have hm : c ∈ chans l := by rw [e]; exact gd_mem hi
    have hc := chan_valid hm
    exact ⟨hc.1, hc.2, of_decide_eq_true hp, hm⟩
/-! ## numbers of channels -/
def cntP {α : Type} (p : α → Bool) (xs : List α) : Int := ((xs.filter p).length : Int)
theorem cntP_bd {α : Type} (p : α → Bool) (xs : List α) : 0 ≤ cntP p xs ∧ cntP p xs ≤ xs.length := by
  have := List.length_filter_le p xs
  simp only [cntP]; omega
theorem cntP_take {α : Type} [Inhabited α] (p : α → Bool) {xs : List α} {i : Nat} (h : i < xs.length) : cntP p (xs.take (i + 1)) = cntP p (xs.take i) + one (p (gd xs i)) := by
  rw [List.take_add_one, getG h, cntP, cntP, List.filter_append, List.length_append]
  cases hp : p (gd xs i) <;> simp [hp, one]
noncomputable def devN (l : List (List Rect)) (n : Int) : Int := bif isLay l && (decide (n = 0) || decide (n = 1)) then cntP (fun c : Chan => decide (c.kind = n)) (chans l) else -1
theorem cnt_chans (l : List (List Rect)) {n : Int} (hn : 0 ≤ n) : cntP (fun c : Chan => decide (c.kind = n)) (chans l) = cntP (fun g => decide (chK l g = n)) (partsC l) := by
  simp only [cntP, chans, List.filter_map, List.length_map, List.filter_filter]
  congr 2
  apply List.filter_congr
  intro g _
  show (decide (chK l g = n) && isCh l g) = decide (chK l g = n)
  by_cases c : chK l g = n
  · rw [decide_eq_true c, isCh, decide_eq_true (by omega)]; rfl
  · rw [decide_eq_false c]; rfl
theorem devN_false {l : List (List Rect)} {n : Int} (h : (!isLay l || (!decide (n = 0) && !decide (n = 1))) = true) : devN l n = -1 := by
  unfold devN; revert h
  cases isLay l <;> cases decide (n = 0) <;> cases decide (n = 1) <;> simp
theorem devN_true {l : List (List Rect)} {n : Int} (h : (!isLay l || (!decide (n = 0) && !decide (n = 1))) = false) : isLay l = true ∧ 0 ≤ n ∧ devN l n = cntP (fun c : Chan => decide (c.kind = n)) (chans l) := by
  have h2 : isLay l = true ∧ (n = 0 ∨ n = 1) := by
    revert h; cases isLay l <;> simp; omega
  refine ⟨h2.1, by omega, ?_⟩
  unfold devN
  rw [h2.1]
  rcases h2.2 with e | e <;> simp [e]
/-! ## the laws -/
end Go.Proofs.Ythjaopefoiploaa
